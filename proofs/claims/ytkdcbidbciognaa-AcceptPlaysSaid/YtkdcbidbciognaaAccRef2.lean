/-
  The document's acceptor (law 13): Accept, Learn.
-/
import Derived.Test.YtkdcbidbciognaaAccRef
import Derived.Test.YtkdcbidbciognaaAccBytes
namespace Go.Proofs.Ytkdcbidbciognaa
set_option linter.unusedVariables false
set_option linter.unusedSimpArgs false
open Go.RowKit

set_option maxRecDepth 8000 in
set_option maxHeartbeats 16000000 in
theorem racc_1 (x : Nat) (n kep : Int) (kns : List Int) (pr pn ar an : Int) (has : Bool) (vep : Int) (vns : List Int) (ep br bn : Int) (A : Option Addr) (cap : Nat) (l : List Int) (veto : Bool) (w : World) (H : XAt w x ⟨n, kep, kns, pr, pn, ar, an, has, vep, vns⟩) (hl : l.length ≤ 1000000) (hs : Sl i64 w A l) (hb1 : -9223372036854775808 ≤ ep ∧ ep ≤ 9223372036854775807) (hk0 : 0 ≤ kep ∧ kep ≤ 1073741824) (hkl : kns.length ≤ 1000000) (hm : mayBal br bn = false) :
    Calls Try.prog 40 #[.pointer (some ⟨x, 0, none⟩), .agg #[.int .i64 ep, .slice A l.length cap], .agg #[.int .i64 br, .int .i64 bn], .bool veto] w fun e w' => e = .returned (.int .i64 1) ∧ Ext w w' := by
  refine hide_post fun D hD => ?_
  have hlt := H.lt
  have HX := Lib.hid H
  obtain ⟨kA, kc, vA, vc, kB, hk, hv⟩ := H
  simp only at hk hv
  obtain ⟨N, hN⟩ : ∃ N, N = l.length := ⟨_, rfl⟩
  rw [← hN]
  obtain ⟨w0, hw0⟩ : ∃ w0, w0 = ((w.alloc (.cells #[.int .i64 ep, .slice A N cap] 26)).alloc (.cells #[.int .i64 br, .int .i64 bn] 23)) := ⟨_, rfl⟩
  have hb0 : Ext w w0 := by rw [hw0]; exact Ext.trans (Ext.trans (Ext.refl _) (ext_al _ _)) (ext_al _ _)
  have hz0 : w0.heap.size = w.heap.size + 2 := by rw [hw0]; simp
  have KB0 : Hid (Blk w0 (w.heap.size) 26 #[.int .i64 ep, .slice A N cap]) := by show Blk _ _ _ _; rw [hw0]; exact ((Blk.new' _ _ _ _ (by simp)).alloc _)
  have z0_0 : ∀ V, Ext w0 V → V.cell? ⟨w.heap.size, 0, none⟩ = some (.int .i64 ep) := fun V h => (KB0.out.stay h).cell 0
  have z0_1 : ∀ V, Ext w0 V → V.cell? ⟨w.heap.size, 1, none⟩ = some (.slice A N cap) := fun V h => (KB0.out.stay h).cell 1
  have KB1 : Hid (Blk w0 (w.heap.size + 1) 23 #[.int .i64 br, .int .i64 bn]) := by show Blk _ _ _ _; rw [hw0]; exact (Blk.new' _ _ _ _ (by simp))
  have z1_0 : ∀ V, Ext w0 V → V.cell? ⟨w.heap.size + 1, 0, none⟩ = some (.int .i64 br) := fun V h => (KB1.out.stay h).cell 0
  have z1_1 : ∀ V, Ext w0 V → V.cell? ⟨w.heap.size + 1, 1, none⟩ = some (.int .i64 bn) := fun V h => (KB1.out.stay h).cell 1
  have y0 : ∀ V, Ext w0 V → V.cell? ⟨x, 0, none⟩ = some (.int .i64 n) := fun V h => ((kB.stay hb0).stay h).cell 0
  have y1 : ∀ V, Ext w0 V → V.cell? ⟨x, 1, none⟩ = some (.int .i64 kep) := fun V h => ((kB.stay hb0).stay h).cell 1
  have y2 : ∀ V, Ext w0 V → V.cell? ⟨x, 2, none⟩ = some (.slice kA kns.length kc) := fun V h => ((kB.stay hb0).stay h).cell 2
  have y3 : ∀ V, Ext w0 V → V.cell? ⟨x, 3, none⟩ = some (.int .i64 pr) := fun V h => ((kB.stay hb0).stay h).cell 3
  have y4 : ∀ V, Ext w0 V → V.cell? ⟨x, 4, none⟩ = some (.int .i64 pn) := fun V h => ((kB.stay hb0).stay h).cell 4
  have HSL0 : Hid (∀ V, Ext w0 V → Sl i64 V A l) := fun V h => hs.stay (Ext.trans hb0 h)
  have HNN := Lib.hid hN
  have HL : Hid (l.length ≤ 1000000) := hl
  have KBW := Lib.hid kB
  have HK := Lib.hid hk
  have HV := Lib.hid hv
  have HW := Lib.hid hw0
  have X0 := Lib.hid hb0
  have HZ0 := Lib.hid hz0
  have HLT := Lib.hid hlt
  have CM : Hid (∀ V, Calls Try.prog 13 #[.agg #[.int .i64 br, .int .i64 bn]] V fun e w' => e = .returned (.bool false) ∧ Ext V w') := fun V => by rw [← hm]; exact refMayBal_any br bn V
  clear hb0 hw0 hz0 hk hv kB hs hl hlt hN hm
  clear hkl
  go_enter Try.func40, Try.ntmps40
  go_wp2_with (go_at_call 13; rw [← HW.out]; (with_reducible refine (CM.out _).mono ?_); rintro e w1 ⟨rfl, hx⟩; have E1 : Hid (Ext w0 w1) := hx; have b0 := z0_0 w1 hx; have b1 := z0_1 w1 hx; clear hx)
  try go_ret
  exact hD.out _ _ ⟨rfl, Ext.trans X0.out E1.out⟩

set_option maxRecDepth 8000 in
set_option maxHeartbeats 16000000 in
theorem racc_1c (x : Nat) (n kep : Int) (kns : List Int) (pr pn ar an : Int) (has : Bool) (vep : Int) (vns : List Int) (ep br bn : Int) (A : Option Addr) (cap : Nat) (l : List Int) (veto : Bool) (w : World) (H : XAt w x ⟨n, kep, kns, pr, pn, ar, an, has, vep, vns⟩) (hl : l.length ≤ 1000000) (hs : Sl i64 w A l) (hb1 : -9223372036854775808 ≤ ep ∧ ep ≤ 9223372036854775807) (hk0 : 0 ≤ kep ∧ kep ≤ 1073741824) (hkl : kns.length ≤ 1000000) (hm : mayBal br bn = true) (hc : mayChainB ep l = false) :
    Calls Try.prog 40 #[.pointer (some ⟨x, 0, none⟩), .agg #[.int .i64 ep, .slice A l.length cap], .agg #[.int .i64 br, .int .i64 bn], .bool veto] w fun e w' => e = .returned (.int .i64 1) ∧ Ext w w' := by
  refine hide_post fun D hD => ?_
  have hlt := H.lt
  have HX := Lib.hid H
  obtain ⟨kA, kc, vA, vc, kB, hk, hv⟩ := H
  simp only at hk hv
  obtain ⟨N, hN⟩ : ∃ N, N = l.length := ⟨_, rfl⟩
  rw [← hN]
  obtain ⟨w0, hw0⟩ : ∃ w0, w0 = ((w.alloc (.cells #[.int .i64 ep, .slice A N cap] 26)).alloc (.cells #[.int .i64 br, .int .i64 bn] 23)) := ⟨_, rfl⟩
  have hb0 : Ext w w0 := by rw [hw0]; exact Ext.trans (Ext.trans (Ext.refl _) (ext_al _ _)) (ext_al _ _)
  have hz0 : w0.heap.size = w.heap.size + 2 := by rw [hw0]; simp
  have KB0 : Hid (Blk w0 (w.heap.size) 26 #[.int .i64 ep, .slice A N cap]) := by show Blk _ _ _ _; rw [hw0]; exact ((Blk.new' _ _ _ _ (by simp)).alloc _)
  have z0_0 : ∀ V, Ext w0 V → V.cell? ⟨w.heap.size, 0, none⟩ = some (.int .i64 ep) := fun V h => (KB0.out.stay h).cell 0
  have z0_1 : ∀ V, Ext w0 V → V.cell? ⟨w.heap.size, 1, none⟩ = some (.slice A N cap) := fun V h => (KB0.out.stay h).cell 1
  have KB1 : Hid (Blk w0 (w.heap.size + 1) 23 #[.int .i64 br, .int .i64 bn]) := by show Blk _ _ _ _; rw [hw0]; exact (Blk.new' _ _ _ _ (by simp))
  have z1_0 : ∀ V, Ext w0 V → V.cell? ⟨w.heap.size + 1, 0, none⟩ = some (.int .i64 br) := fun V h => (KB1.out.stay h).cell 0
  have z1_1 : ∀ V, Ext w0 V → V.cell? ⟨w.heap.size + 1, 1, none⟩ = some (.int .i64 bn) := fun V h => (KB1.out.stay h).cell 1
  have y0 : ∀ V, Ext w0 V → V.cell? ⟨x, 0, none⟩ = some (.int .i64 n) := fun V h => ((kB.stay hb0).stay h).cell 0
  have y1 : ∀ V, Ext w0 V → V.cell? ⟨x, 1, none⟩ = some (.int .i64 kep) := fun V h => ((kB.stay hb0).stay h).cell 1
  have y2 : ∀ V, Ext w0 V → V.cell? ⟨x, 2, none⟩ = some (.slice kA kns.length kc) := fun V h => ((kB.stay hb0).stay h).cell 2
  have y3 : ∀ V, Ext w0 V → V.cell? ⟨x, 3, none⟩ = some (.int .i64 pr) := fun V h => ((kB.stay hb0).stay h).cell 3
  have y4 : ∀ V, Ext w0 V → V.cell? ⟨x, 4, none⟩ = some (.int .i64 pn) := fun V h => ((kB.stay hb0).stay h).cell 4
  have HSL0 : Hid (∀ V, Ext w0 V → Sl i64 V A l) := fun V h => hs.stay (Ext.trans hb0 h)
  have HNN := Lib.hid hN
  have HL : Hid (l.length ≤ 1000000) := hl
  have KBW := Lib.hid kB
  have HK := Lib.hid hk
  have HV := Lib.hid hv
  have HW := Lib.hid hw0
  have X0 := Lib.hid hb0
  have HZ0 := Lib.hid hz0
  have HLT := Lib.hid hlt
  have CM : Hid (∀ V, Calls Try.prog 13 #[.agg #[.int .i64 br, .int .i64 bn]] V fun e w' => e = .returned (.bool true) ∧ Ext V w') := fun V => by rw [← hm]; exact refMayBal_any br bn V
  have CMC : Hid (∀ V, Ext w0 V → Calls Try.prog 14 #[.agg #[.int .i64 ep, .slice A N cap]] V fun e w' => e = .returned (.bool false) ∧ Ext V w') := fun V h => by rw [← hc, hN]; exact refMayChain_any ep A cap l V (by omega) (hs.stay (Ext.trans hb0 h))
  clear hb0 hw0 hz0 hk hv kB hs hl hlt hN hm hc
  clear hkl
  go_enter Try.func40, Try.ntmps40
  go_wp2_with (first
    | (go_at_call 14; (with_reducible refine (CMC.out _ E1.out).mono ?_); rintro e w2 ⟨rfl, hx⟩; have E2 : Hid (Ext w0 w2) := Ext.trans E1.out hx; clear hx)
    | (go_at_call 13; rw [← HW.out]; (with_reducible refine (CM.out _).mono ?_); rintro e w1 ⟨rfl, hx⟩; have E1 : Hid (Ext w0 w1) := hx; have b0 := z0_0 w1 hx; have b1 := z0_1 w1 hx; clear hx))
  try go_ret
  exact hD.out _ _ ⟨rfl, Ext.trans X0.out E2.out⟩

set_option maxRecDepth 8000 in
set_option maxHeartbeats 16000000 in
theorem racc_2 (x : Nat) (n kep : Int) (kns : List Int) (pr pn ar an : Int) (has : Bool) (vep : Int) (vns : List Int) (ep br bn : Int) (A : Option Addr) (cap : Nat) (l : List Int) (veto : Bool) (w : World) (H : XAt w x ⟨n, kep, kns, pr, pn, ar, an, has, vep, vns⟩) (hl : l.length ≤ 1000000) (hs : Sl i64 w A l) (hb1 : -9223372036854775808 ≤ ep ∧ ep ≤ 9223372036854775807) (hk0 : 0 ≤ kep ∧ kep ≤ 1073741824) (hkl : kns.length ≤ 1000000) (hm : mayBal br bn = true) (hc : mayChainB ep l = true) (h2 : ep ≤ kep) :
    Calls Try.prog 40 #[.pointer (some ⟨x, 0, none⟩), .agg #[.int .i64 ep, .slice A l.length cap], .agg #[.int .i64 br, .int .i64 bn], .bool veto] w fun e w' => e = .returned (.int .i64 7) ∧ Ext w w' := by
  refine hide_post fun D hD => ?_
  have hlt := H.lt
  have HX := Lib.hid H
  obtain ⟨kA, kc, vA, vc, kB, hk, hv⟩ := H
  simp only at hk hv
  obtain ⟨N, hN⟩ : ∃ N, N = l.length := ⟨_, rfl⟩
  rw [← hN]
  obtain ⟨w0, hw0⟩ : ∃ w0, w0 = ((w.alloc (.cells #[.int .i64 ep, .slice A N cap] 26)).alloc (.cells #[.int .i64 br, .int .i64 bn] 23)) := ⟨_, rfl⟩
  have hb0 : Ext w w0 := by rw [hw0]; exact Ext.trans (Ext.trans (Ext.refl _) (ext_al _ _)) (ext_al _ _)
  have hz0 : w0.heap.size = w.heap.size + 2 := by rw [hw0]; simp
  have KB0 : Hid (Blk w0 (w.heap.size) 26 #[.int .i64 ep, .slice A N cap]) := by show Blk _ _ _ _; rw [hw0]; exact ((Blk.new' _ _ _ _ (by simp)).alloc _)
  have z0_0 : ∀ V, Ext w0 V → V.cell? ⟨w.heap.size, 0, none⟩ = some (.int .i64 ep) := fun V h => (KB0.out.stay h).cell 0
  have z0_1 : ∀ V, Ext w0 V → V.cell? ⟨w.heap.size, 1, none⟩ = some (.slice A N cap) := fun V h => (KB0.out.stay h).cell 1
  have KB1 : Hid (Blk w0 (w.heap.size + 1) 23 #[.int .i64 br, .int .i64 bn]) := by show Blk _ _ _ _; rw [hw0]; exact (Blk.new' _ _ _ _ (by simp))
  have z1_0 : ∀ V, Ext w0 V → V.cell? ⟨w.heap.size + 1, 0, none⟩ = some (.int .i64 br) := fun V h => (KB1.out.stay h).cell 0
  have z1_1 : ∀ V, Ext w0 V → V.cell? ⟨w.heap.size + 1, 1, none⟩ = some (.int .i64 bn) := fun V h => (KB1.out.stay h).cell 1
  have y0 : ∀ V, Ext w0 V → V.cell? ⟨x, 0, none⟩ = some (.int .i64 n) := fun V h => ((kB.stay hb0).stay h).cell 0
  have y1 : ∀ V, Ext w0 V → V.cell? ⟨x, 1, none⟩ = some (.int .i64 kep) := fun V h => ((kB.stay hb0).stay h).cell 1
  have y2 : ∀ V, Ext w0 V → V.cell? ⟨x, 2, none⟩ = some (.slice kA kns.length kc) := fun V h => ((kB.stay hb0).stay h).cell 2
  have y3 : ∀ V, Ext w0 V → V.cell? ⟨x, 3, none⟩ = some (.int .i64 pr) := fun V h => ((kB.stay hb0).stay h).cell 3
  have y4 : ∀ V, Ext w0 V → V.cell? ⟨x, 4, none⟩ = some (.int .i64 pn) := fun V h => ((kB.stay hb0).stay h).cell 4
  have HSL0 : Hid (∀ V, Ext w0 V → Sl i64 V A l) := fun V h => hs.stay (Ext.trans hb0 h)
  have HNN := Lib.hid hN
  have HL : Hid (l.length ≤ 1000000) := hl
  have KBW := Lib.hid kB
  have HK := Lib.hid hk
  have HV := Lib.hid hv
  have HW := Lib.hid hw0
  have X0 := Lib.hid hb0
  have HZ0 := Lib.hid hz0
  have HLT := Lib.hid hlt
  have CM : Hid (∀ V, Calls Try.prog 13 #[.agg #[.int .i64 br, .int .i64 bn]] V fun e w' => e = .returned (.bool true) ∧ Ext V w') := fun V => by rw [← hm]; exact refMayBal_any br bn V
  have CMC : Hid (∀ V, Ext w0 V → Calls Try.prog 14 #[.agg #[.int .i64 ep, .slice A N cap]] V fun e w' => e = .returned (.bool true) ∧ Ext V w') := fun V h => by rw [← hc, hN]; exact refMayChain_any ep A cap l V (by omega) (hs.stay (Ext.trans hb0 h))
  clear hb0 hw0 hz0 hk hv kB hs hl hlt hN hm hc
  clear hkl
  go_enter Try.func40, Try.ntmps40
  go_upto_region 3 with (first
    | (go_at_call 14; (with_reducible refine (CMC.out _ E1.out).mono ?_); rintro e w2 ⟨rfl, hx⟩; have E2 : Hid (Ext w0 w2) := Ext.trans E1.out hx; clear hx)
    | (go_at_call 13; rw [← HW.out]; (with_reducible refine (CM.out _).mono ?_); rintro e w1 ⟨rfl, hx⟩; have E1 : Hid (Ext w0 w1) := hx; have b0 := z0_0 w1 hx; have b1 := z0_1 w1 hx; clear hx))
  try clear b0
  try clear b1
  try clear E1
  refine ext_begin (by kernel_rfl) ?_
  have E2d := Lib.hid (Ext.drewR E2.out)
  refine ext_take (i := 0) (v := ?_) rfl (by kernel_rfl) (by kernel_rfl) (by kernel_rfl) (fun _ _ _ h => h) (by rfl) ?_ ?_
  rotate_left
  · intro W hW; have hW0 := Ext.trans E2d.out hW; clear hW; go_simp <;> with_reducible rfl
  try simp only [Act.put, List.setIfInBounds_toArray, List.set_cons_zero, List.set_cons_succ]
  refine ext_take (i := 1) (v := ?_) rfl (by kernel_rfl) (by kernel_rfl) (by kernel_rfl) (fun _ _ _ h => h) (by rfl) ?_ ?_
  rotate_left
  · intro W hW; have hW0 := Ext.trans E2d.out hW; clear hW; go_simp <;> with_reducible rfl
  try simp only [Act.put, List.setIfInBounds_toArray, List.set_cons_zero, List.set_cons_succ]
  refine ext_take (i := 2) (v := ?_) rfl (by kernel_rfl) (by kernel_rfl) (by kernel_rfl) (fun _ _ _ h => h) (by rfl) ?_ ?_
  rotate_left
  · intro W hW; have hW0 := Ext.trans E2d.out hW; clear hW; go_simp <;> with_reducible rfl
  try simp only [Act.put, List.setIfInBounds_toArray, List.set_cons_zero, List.set_cons_succ]
  refine ext_take (i := 3) (v := ?_) rfl (by kernel_rfl) (by kernel_rfl) (by kernel_rfl) (fun _ _ _ h => h) (by rfl) ?_ ?_
  rotate_left
  · intro W hW; have hW0 := Ext.trans E2d.out hW; clear hW; go_simp <;> with_reducible rfl
  try simp only [Act.put, List.setIfInBounds_toArray, List.set_cons_zero, List.set_cons_succ]
  refine ext_take (i := 4) (v := ?_) rfl (by kernel_rfl) (by kernel_rfl) (by kernel_rfl) (fun _ _ _ h => h) (by rfl) ?_ ?_
  rotate_left
  · intro W hW; have hW0 := Ext.trans E2d.out hW; clear hW; go_simp <;> with_reducible rfl
  try simp only [Act.put, List.setIfInBounds_toArray, List.set_cons_zero, List.set_cons_succ]
  refine ext_take (i := 5) (v := ?_) rfl (by kernel_rfl) (by kernel_rfl) (by kernel_rfl) (fun _ _ _ h => h) (by rfl) ?_ ?_
  rotate_left
  · intro W hW; have hW0 := Ext.trans E2d.out hW; clear hW; go_simp <;> with_reducible rfl
  try simp only [Act.put, List.setIfInBounds_toArray, List.set_cons_zero, List.set_cons_succ]
  refine ext_take (i := 6) (v := ?_) rfl (by kernel_rfl) (by kernel_rfl) (by kernel_rfl) (fun _ _ _ h => h) (by rfl) ?_ ?_
  rotate_left
  · intro W hW; have hW0 := Ext.trans E2d.out hW; clear hW; go_simp <;> with_reducible rfl
  try simp only [Act.put, List.setIfInBounds_toArray, List.set_cons_zero, List.set_cons_succ]
  refine ext_take (i := 7) (v := ?_) rfl (by kernel_rfl) (by kernel_rfl) (by kernel_rfl) (fun _ _ _ h => h) (by rfl) ?_ ?_
  rotate_left
  · intro W hW; have hW0 := Ext.trans E2d.out hW; clear hW; go_simp <;> with_reducible rfl
  try simp only [Act.put, List.setIfInBounds_toArray, List.set_cons_zero, List.set_cons_succ]
  refine ext_take (i := 8) (v := ?_) rfl (by kernel_rfl) (by kernel_rfl) (by kernel_rfl) (fun _ _ _ h => h) (by rfl) ?_ ?_
  rotate_left
  · intro W hW; have hW0 := Ext.trans E2d.out hW; clear hW; go_simp <;> with_reducible rfl
  try simp only [Act.put, List.setIfInBounds_toArray, List.set_cons_zero, List.set_cons_succ]
  refine wpAnyH_done (by kernel_rfl) ?_ _
  have EX := Lib.hid E2d.out
  clear y0 y1 y2 y3 y4 z0_0 z0_1 z1_0 z1_1
  go_wp2_with fail
  try go_ret
  exact hD.out _ _ ⟨rfl, Ext.trans X0.out EX.out⟩

set_option maxRecDepth 8000 in
set_option maxHeartbeats 16000000 in
theorem racc_3 (x : Nat) (n kep : Int) (kns : List Int) (pr pn ar an : Int) (has : Bool) (vep : Int) (vns : List Int) (ep br bn : Int) (A : Option Addr) (cap : Nat) (l : List Int) (veto : Bool) (w : World) (H : XAt w x ⟨n, kep, kns, pr, pn, ar, an, has, vep, vns⟩) (hl : l.length ≤ 1000000) (hs : Sl i64 w A l) (hb1 : -9223372036854775808 ≤ ep ∧ ep ≤ 9223372036854775807) (hk0 : 0 ≤ kep ∧ kep ≤ 1073741824) (hkl : kns.length ≤ 1000000) (hm : mayBal br bn = true) (hc : mayChainB ep l = true) (h2 : kep < ep) (h3 : ¬ ep = kep + 1) :
    Calls Try.prog 40 #[.pointer (some ⟨x, 0, none⟩), .agg #[.int .i64 ep, .slice A l.length cap], .agg #[.int .i64 br, .int .i64 bn], .bool veto] w fun e w' => e = .returned (.int .i64 4) ∧ Ext w w' := by
  refine hide_post fun D hD => ?_
  have hlt := H.lt
  have HX := Lib.hid H
  obtain ⟨kA, kc, vA, vc, kB, hk, hv⟩ := H
  simp only at hk hv
  obtain ⟨N, hN⟩ : ∃ N, N = l.length := ⟨_, rfl⟩
  rw [← hN]
  obtain ⟨w0, hw0⟩ : ∃ w0, w0 = ((w.alloc (.cells #[.int .i64 ep, .slice A N cap] 26)).alloc (.cells #[.int .i64 br, .int .i64 bn] 23)) := ⟨_, rfl⟩
  have hb0 : Ext w w0 := by rw [hw0]; exact Ext.trans (Ext.trans (Ext.refl _) (ext_al _ _)) (ext_al _ _)
  have hz0 : w0.heap.size = w.heap.size + 2 := by rw [hw0]; simp
  have KB0 : Hid (Blk w0 (w.heap.size) 26 #[.int .i64 ep, .slice A N cap]) := by show Blk _ _ _ _; rw [hw0]; exact ((Blk.new' _ _ _ _ (by simp)).alloc _)
  have z0_0 : ∀ V, Ext w0 V → V.cell? ⟨w.heap.size, 0, none⟩ = some (.int .i64 ep) := fun V h => (KB0.out.stay h).cell 0
  have z0_1 : ∀ V, Ext w0 V → V.cell? ⟨w.heap.size, 1, none⟩ = some (.slice A N cap) := fun V h => (KB0.out.stay h).cell 1
  have KB1 : Hid (Blk w0 (w.heap.size + 1) 23 #[.int .i64 br, .int .i64 bn]) := by show Blk _ _ _ _; rw [hw0]; exact (Blk.new' _ _ _ _ (by simp))
  have z1_0 : ∀ V, Ext w0 V → V.cell? ⟨w.heap.size + 1, 0, none⟩ = some (.int .i64 br) := fun V h => (KB1.out.stay h).cell 0
  have z1_1 : ∀ V, Ext w0 V → V.cell? ⟨w.heap.size + 1, 1, none⟩ = some (.int .i64 bn) := fun V h => (KB1.out.stay h).cell 1
  have y0 : ∀ V, Ext w0 V → V.cell? ⟨x, 0, none⟩ = some (.int .i64 n) := fun V h => ((kB.stay hb0).stay h).cell 0
  have y1 : ∀ V, Ext w0 V → V.cell? ⟨x, 1, none⟩ = some (.int .i64 kep) := fun V h => ((kB.stay hb0).stay h).cell 1
  have y2 : ∀ V, Ext w0 V → V.cell? ⟨x, 2, none⟩ = some (.slice kA kns.length kc) := fun V h => ((kB.stay hb0).stay h).cell 2
  have y3 : ∀ V, Ext w0 V → V.cell? ⟨x, 3, none⟩ = some (.int .i64 pr) := fun V h => ((kB.stay hb0).stay h).cell 3
  have y4 : ∀ V, Ext w0 V → V.cell? ⟨x, 4, none⟩ = some (.int .i64 pn) := fun V h => ((kB.stay hb0).stay h).cell 4
  have HSL0 : Hid (∀ V, Ext w0 V → Sl i64 V A l) := fun V h => hs.stay (Ext.trans hb0 h)
  have HNN := Lib.hid hN
  have HL : Hid (l.length ≤ 1000000) := hl
  have KBW := Lib.hid kB
  have HK := Lib.hid hk
  have HV := Lib.hid hv
  have HW := Lib.hid hw0
  have X0 := Lib.hid hb0
  have HZ0 := Lib.hid hz0
  have HLT := Lib.hid hlt
  have CM : Hid (∀ V, Calls Try.prog 13 #[.agg #[.int .i64 br, .int .i64 bn]] V fun e w' => e = .returned (.bool true) ∧ Ext V w') := fun V => by rw [← hm]; exact refMayBal_any br bn V
  have CMC : Hid (∀ V, Ext w0 V → Calls Try.prog 14 #[.agg #[.int .i64 ep, .slice A N cap]] V fun e w' => e = .returned (.bool true) ∧ Ext V w') := fun V h => by rw [← hc, hN]; exact refMayChain_any ep A cap l V (by omega) (hs.stay (Ext.trans hb0 h))
  have hle : ¬ ep ≤ kep := by omega
  have hsub : IntKind.i64.wrap (ep - 1) = ep - 1 := IntWalk.i64_in _ (by omega)
  have hne : (ep - 1 != kep) = true := by simp; omega
  clear hb0 hw0 hz0 hk hv kB hs hl hlt hN hm hc
  clear hkl
  go_enter Try.func40, Try.ntmps40
  go_upto_region 3 with (first
    | (go_at_call 14; (with_reducible refine (CMC.out _ E1.out).mono ?_); rintro e w2 ⟨rfl, hx⟩; have E2 : Hid (Ext w0 w2) := Ext.trans E1.out hx; clear hx)
    | (go_at_call 13; rw [← HW.out]; (with_reducible refine (CM.out _).mono ?_); rintro e w1 ⟨rfl, hx⟩; have E1 : Hid (Ext w0 w1) := hx; have b0 := z0_0 w1 hx; have b1 := z0_1 w1 hx; clear hx))
  try clear b0
  try clear b1
  try clear E1
  refine ext_begin (by kernel_rfl) ?_
  have E2d := Lib.hid (Ext.drewR E2.out)
  refine ext_take (i := 0) (v := ?_) rfl (by kernel_rfl) (by kernel_rfl) (by kernel_rfl) (fun _ _ _ h => h) (by rfl) ?_ ?_
  rotate_left
  · intro W hW; have hW0 := Ext.trans E2d.out hW; clear hW; go_simp <;> with_reducible rfl
  try simp only [Act.put, List.setIfInBounds_toArray, List.set_cons_zero, List.set_cons_succ]
  refine ext_take (i := 1) (v := ?_) rfl (by kernel_rfl) (by kernel_rfl) (by kernel_rfl) (fun _ _ _ h => h) (by rfl) ?_ ?_
  rotate_left
  · intro W hW; have hW0 := Ext.trans E2d.out hW; clear hW; go_simp <;> with_reducible rfl
  try simp only [Act.put, List.setIfInBounds_toArray, List.set_cons_zero, List.set_cons_succ]
  refine ext_take (i := 2) (v := ?_) rfl (by kernel_rfl) (by kernel_rfl) (by kernel_rfl) (fun _ _ _ h => h) (by rfl) ?_ ?_
  rotate_left
  · intro W hW; have hW0 := Ext.trans E2d.out hW; clear hW; go_simp <;> with_reducible rfl
  try simp only [Act.put, List.setIfInBounds_toArray, List.set_cons_zero, List.set_cons_succ]
  refine ext_take (i := 3) (v := ?_) rfl (by kernel_rfl) (by kernel_rfl) (by kernel_rfl) (fun _ _ _ h => h) (by rfl) ?_ ?_
  rotate_left
  · intro W hW; have hW0 := Ext.trans E2d.out hW; clear hW; go_simp <;> with_reducible rfl
  try simp only [Act.put, List.setIfInBounds_toArray, List.set_cons_zero, List.set_cons_succ]
  refine ext_take (i := 4) (v := ?_) rfl (by kernel_rfl) (by kernel_rfl) (by kernel_rfl) (fun _ _ _ h => h) (by rfl) ?_ ?_
  rotate_left
  · intro W hW; have hW0 := Ext.trans E2d.out hW; clear hW; go_simp <;> with_reducible rfl
  try simp only [Act.put, List.setIfInBounds_toArray, List.set_cons_zero, List.set_cons_succ]
  refine ext_take (i := 5) (v := ?_) rfl (by kernel_rfl) (by kernel_rfl) (by kernel_rfl) (fun _ _ _ h => h) (by rfl) ?_ ?_
  rotate_left
  · intro W hW; have hW0 := Ext.trans E2d.out hW; clear hW; go_simp <;> with_reducible rfl
  try simp only [Act.put, List.setIfInBounds_toArray, List.set_cons_zero, List.set_cons_succ]
  refine ext_take (i := 6) (v := ?_) rfl (by kernel_rfl) (by kernel_rfl) (by kernel_rfl) (fun _ _ _ h => h) (by rfl) ?_ ?_
  rotate_left
  · intro W hW; have hW0 := Ext.trans E2d.out hW; clear hW; go_simp <;> with_reducible rfl
  try simp only [Act.put, List.setIfInBounds_toArray, List.set_cons_zero, List.set_cons_succ]
  refine ext_take (i := 7) (v := ?_) rfl (by kernel_rfl) (by kernel_rfl) (by kernel_rfl) (fun _ _ _ h => h) (by rfl) ?_ ?_
  rotate_left
  · intro W hW; have hW0 := Ext.trans E2d.out hW; clear hW; go_simp <;> with_reducible rfl
  try simp only [Act.put, List.setIfInBounds_toArray, List.set_cons_zero, List.set_cons_succ]
  refine ext_take (i := 8) (v := ?_) rfl (by kernel_rfl) (by kernel_rfl) (by kernel_rfl) (fun _ _ _ h => h) (by rfl) ?_ ?_
  rotate_left
  · intro W hW; have hW0 := Ext.trans E2d.out hW; clear hW; go_simp <;> with_reducible rfl
  try simp only [Act.put, List.setIfInBounds_toArray, List.set_cons_zero, List.set_cons_succ]
  refine wpAnyH_done (by kernel_rfl) ?_ _
  go_upto_region 5 with fail
  refine ext_begin (by kernel_rfl) ?_
  have E2dd := Lib.hid (Ext.drewR E2d.out)
  refine ext_take (i := 0) (v := ?_) rfl (by kernel_rfl) (by kernel_rfl) (by kernel_rfl) (fun _ _ _ h => h) (by rfl) ?_ ?_
  rotate_left
  · intro W hW; have hW0 := Ext.trans E2dd.out hW; clear hW; go_simp <;> with_reducible rfl
  try simp only [Act.put, List.setIfInBounds_toArray, List.set_cons_zero, List.set_cons_succ]
  refine ext_take (i := 1) (v := ?_) rfl (by kernel_rfl) (by kernel_rfl) (by kernel_rfl) (fun _ _ _ h => h) (by rfl) ?_ ?_
  rotate_left
  · intro W hW; have hW0 := Ext.trans E2dd.out hW; clear hW; go_simp <;> with_reducible rfl
  try simp only [Act.put, List.setIfInBounds_toArray, List.set_cons_zero, List.set_cons_succ]
  refine ext_take (i := 2) (v := ?_) rfl (by kernel_rfl) (by kernel_rfl) (by kernel_rfl) (fun _ _ _ h => h) (by rfl) ?_ ?_
  rotate_left
  · intro W hW; have hW0 := Ext.trans E2dd.out hW; clear hW; go_simp <;> with_reducible rfl
  try simp only [Act.put, List.setIfInBounds_toArray, List.set_cons_zero, List.set_cons_succ]
  refine ext_take (i := 3) (v := ?_) rfl (by kernel_rfl) (by kernel_rfl) (by kernel_rfl) (fun _ _ _ h => h) (by rfl) ?_ ?_
  rotate_left
  · intro W hW; have hW0 := Ext.trans E2dd.out hW; clear hW; go_simp <;> with_reducible rfl
  try simp only [Act.put, List.setIfInBounds_toArray, List.set_cons_zero, List.set_cons_succ]
  refine ext_take (i := 4) (v := ?_) rfl (by kernel_rfl) (by kernel_rfl) (by kernel_rfl) (fun _ _ _ h => h) (by rfl) ?_ ?_
  rotate_left
  · intro W hW; have hW0 := Ext.trans E2dd.out hW; clear hW; go_simp <;> with_reducible rfl
  try simp only [Act.put, List.setIfInBounds_toArray, List.set_cons_zero, List.set_cons_succ]
  refine ext_take (i := 5) (v := ?_) rfl (by kernel_rfl) (by kernel_rfl) (by kernel_rfl) (fun _ _ _ h => h) (by rfl) ?_ ?_
  rotate_left
  · intro W hW; have hW0 := Ext.trans E2dd.out hW; clear hW; go_simp <;> with_reducible rfl
  try simp only [Act.put, List.setIfInBounds_toArray, List.set_cons_zero, List.set_cons_succ]
  refine ext_take (i := 6) (v := ?_) rfl (by kernel_rfl) (by kernel_rfl) (by kernel_rfl) (fun _ _ _ h => h) (by rfl) ?_ ?_
  rotate_left
  · intro W hW; have hW0 := Ext.trans E2dd.out hW; clear hW; go_simp <;> with_reducible rfl
  try simp only [Act.put, List.setIfInBounds_toArray, List.set_cons_zero, List.set_cons_succ]
  refine ext_take (i := 7) (v := ?_) rfl (by kernel_rfl) (by kernel_rfl) (by kernel_rfl) (fun _ _ _ h => h) (by rfl) ?_ ?_
  rotate_left
  · intro W hW; have hW0 := Ext.trans E2dd.out hW; clear hW; go_simp <;> with_reducible rfl
  try simp only [Act.put, List.setIfInBounds_toArray, List.set_cons_zero, List.set_cons_succ]
  refine ext_take (i := 8) (v := ?_) rfl (by kernel_rfl) (by kernel_rfl) (by kernel_rfl) (fun _ _ _ h => h) (by rfl) ?_ ?_
  rotate_left
  · intro W hW; have hW0 := Ext.trans E2dd.out hW; clear hW; go_simp <;> with_reducible rfl
  try simp only [Act.put, List.setIfInBounds_toArray, List.set_cons_zero, List.set_cons_succ]
  refine ext_take (i := 9) (v := ?_) rfl (by kernel_rfl) (by kernel_rfl) (by kernel_rfl) (fun _ _ _ h => h) (by rfl) ?_ ?_
  rotate_left
  · intro W hW; have hW0 := Ext.trans E2dd.out hW; clear hW; go_simp <;> with_reducible rfl
  try simp only [Act.put, List.setIfInBounds_toArray, List.set_cons_zero, List.set_cons_succ]
  refine wpAnyH_done (by kernel_rfl) ?_ _
  have EX := Lib.hid E2dd.out
  clear y0 y1 y2 y3 y4 z0_0 z0_1 z1_0 z1_1
  go_wp2_with fail
  try go_ret
  exact hD.out _ _ ⟨rfl, Ext.trans X0.out EX.out⟩

set_option maxRecDepth 8000 in
set_option maxHeartbeats 16000000 in
theorem racc_4 (x : Nat) (n kep : Int) (kns : List Int) (pr pn ar an : Int) (has : Bool) (vep : Int) (vns : List Int) (ep br bn : Int) (A : Option Addr) (cap : Nat) (l : List Int) (veto : Bool) (w : World) (H : XAt w x ⟨n, kep, kns, pr, pn, ar, an, has, vep, vns⟩) (hl : l.length ≤ 1000000) (hs : Sl i64 w A l) (hb1 : -9223372036854775808 ≤ ep ∧ ep ≤ 9223372036854775807) (hk0 : 0 ≤ kep ∧ kep ≤ 1073741824) (hkl : kns.length ≤ 1000000) (hm : mayBal br bn = true) (hc : mayChainB ep l = true) (h3 : ep = kep + 1) (h5 : nextB kep ep kns l n = false) :
    Calls Try.prog 40 #[.pointer (some ⟨x, 0, none⟩), .agg #[.int .i64 ep, .slice A l.length cap], .agg #[.int .i64 br, .int .i64 bn], .bool veto] w fun e w' => e = .returned (.int .i64 1) ∧ Ext w w' := by
  refine hide_post fun D hD => ?_
  have hlt := H.lt
  have HX := Lib.hid H
  obtain ⟨kA, kc, vA, vc, kB, hk, hv⟩ := H
  simp only at hk hv
  obtain ⟨N, hN⟩ : ∃ N, N = l.length := ⟨_, rfl⟩
  rw [← hN]
  obtain ⟨w0, hw0⟩ : ∃ w0, w0 = ((w.alloc (.cells #[.int .i64 ep, .slice A N cap] 26)).alloc (.cells #[.int .i64 br, .int .i64 bn] 23)) := ⟨_, rfl⟩
  have hb0 : Ext w w0 := by rw [hw0]; exact Ext.trans (Ext.trans (Ext.refl _) (ext_al _ _)) (ext_al _ _)
  have hz0 : w0.heap.size = w.heap.size + 2 := by rw [hw0]; simp
  have KB0 : Hid (Blk w0 (w.heap.size) 26 #[.int .i64 ep, .slice A N cap]) := by show Blk _ _ _ _; rw [hw0]; exact ((Blk.new' _ _ _ _ (by simp)).alloc _)
  have z0_0 : ∀ V, Ext w0 V → V.cell? ⟨w.heap.size, 0, none⟩ = some (.int .i64 ep) := fun V h => (KB0.out.stay h).cell 0
  have z0_1 : ∀ V, Ext w0 V → V.cell? ⟨w.heap.size, 1, none⟩ = some (.slice A N cap) := fun V h => (KB0.out.stay h).cell 1
  have KB1 : Hid (Blk w0 (w.heap.size + 1) 23 #[.int .i64 br, .int .i64 bn]) := by show Blk _ _ _ _; rw [hw0]; exact (Blk.new' _ _ _ _ (by simp))
  have z1_0 : ∀ V, Ext w0 V → V.cell? ⟨w.heap.size + 1, 0, none⟩ = some (.int .i64 br) := fun V h => (KB1.out.stay h).cell 0
  have z1_1 : ∀ V, Ext w0 V → V.cell? ⟨w.heap.size + 1, 1, none⟩ = some (.int .i64 bn) := fun V h => (KB1.out.stay h).cell 1
  have y0 : ∀ V, Ext w0 V → V.cell? ⟨x, 0, none⟩ = some (.int .i64 n) := fun V h => ((kB.stay hb0).stay h).cell 0
  have y1 : ∀ V, Ext w0 V → V.cell? ⟨x, 1, none⟩ = some (.int .i64 kep) := fun V h => ((kB.stay hb0).stay h).cell 1
  have y2 : ∀ V, Ext w0 V → V.cell? ⟨x, 2, none⟩ = some (.slice kA kns.length kc) := fun V h => ((kB.stay hb0).stay h).cell 2
  have y3 : ∀ V, Ext w0 V → V.cell? ⟨x, 3, none⟩ = some (.int .i64 pr) := fun V h => ((kB.stay hb0).stay h).cell 3
  have y4 : ∀ V, Ext w0 V → V.cell? ⟨x, 4, none⟩ = some (.int .i64 pn) := fun V h => ((kB.stay hb0).stay h).cell 4
  have HSL0 : Hid (∀ V, Ext w0 V → Sl i64 V A l) := fun V h => hs.stay (Ext.trans hb0 h)
  have HNN := Lib.hid hN
  have HL : Hid (l.length ≤ 1000000) := hl
  have KBW := Lib.hid kB
  have HK := Lib.hid hk
  have HV := Lib.hid hv
  have HW := Lib.hid hw0
  have X0 := Lib.hid hb0
  have HZ0 := Lib.hid hz0
  have HLT := Lib.hid hlt
  have CM : Hid (∀ V, Calls Try.prog 13 #[.agg #[.int .i64 br, .int .i64 bn]] V fun e w' => e = .returned (.bool true) ∧ Ext V w') := fun V => by rw [← hm]; exact refMayBal_any br bn V
  have CMC : Hid (∀ V, Ext w0 V → Calls Try.prog 14 #[.agg #[.int .i64 ep, .slice A N cap]] V fun e w' => e = .returned (.bool true) ∧ Ext V w') := fun V h => by rw [← hc, hN]; exact refMayChain_any ep A cap l V (by omega) (hs.stay (Ext.trans hb0 h))
  have hle : ¬ ep ≤ kep := by omega
  have hsub : IntKind.i64.wrap (ep - 1) = kep := by rw [IntWalk.i64_in _ (by omega)]; omega
  have hne : (kep != kep) = false := by simp
  have CF : Hid (∀ V, Ext w0 V → Calls Try.prog 35 #[.agg #[.int .i64 kep, .slice kA kns.length kc], .agg #[.int .i64 ep, .slice A N cap], .int .i64 n] V fun e w' => e = .returned (.bool false) ∧ Ext V w') := fun V h => by rw [← h5, hN]; exact follows_any kep ep n kA A kc cap kns l V (by omega) (by omega) (hk.sl.stay (Ext.trans hb0 h)) (hs.stay (Ext.trans hb0 h))
  clear hb0 hw0 hz0 hk hv kB hs hl hlt hN hm hc h5
  clear hkl
  replace h3 := Lib.hid h3
  go_enter Try.func40, Try.ntmps40
  go_upto_region 3 with (first
    | (go_at_call 14; (with_reducible refine (CMC.out _ E1.out).mono ?_); rintro e w2 ⟨rfl, hx⟩; have E2 : Hid (Ext w0 w2) := Ext.trans E1.out hx; clear hx)
    | (go_at_call 13; rw [← HW.out]; (with_reducible refine (CM.out _).mono ?_); rintro e w1 ⟨rfl, hx⟩; have E1 : Hid (Ext w0 w1) := hx; have b0 := z0_0 w1 hx; have b1 := z0_1 w1 hx; clear hx))
  try clear b0
  try clear b1
  try clear E1
  refine ext_begin (by kernel_rfl) ?_
  have E2d := Lib.hid (Ext.drewR E2.out)
  refine ext_take (i := 0) (v := ?_) rfl (by kernel_rfl) (by kernel_rfl) (by kernel_rfl) (fun _ _ _ h => h) (by rfl) ?_ ?_
  rotate_left
  · intro W hW; have hW0 := Ext.trans E2d.out hW; clear hW; go_simp <;> with_reducible rfl
  try simp only [Act.put, List.setIfInBounds_toArray, List.set_cons_zero, List.set_cons_succ]
  refine ext_take (i := 1) (v := ?_) rfl (by kernel_rfl) (by kernel_rfl) (by kernel_rfl) (fun _ _ _ h => h) (by rfl) ?_ ?_
  rotate_left
  · intro W hW; have hW0 := Ext.trans E2d.out hW; clear hW; go_simp <;> with_reducible rfl
  try simp only [Act.put, List.setIfInBounds_toArray, List.set_cons_zero, List.set_cons_succ]
  refine ext_take (i := 2) (v := ?_) rfl (by kernel_rfl) (by kernel_rfl) (by kernel_rfl) (fun _ _ _ h => h) (by rfl) ?_ ?_
  rotate_left
  · intro W hW; have hW0 := Ext.trans E2d.out hW; clear hW; go_simp <;> with_reducible rfl
  try simp only [Act.put, List.setIfInBounds_toArray, List.set_cons_zero, List.set_cons_succ]
  refine ext_take (i := 3) (v := ?_) rfl (by kernel_rfl) (by kernel_rfl) (by kernel_rfl) (fun _ _ _ h => h) (by rfl) ?_ ?_
  rotate_left
  · intro W hW; have hW0 := Ext.trans E2d.out hW; clear hW; go_simp <;> with_reducible rfl
  try simp only [Act.put, List.setIfInBounds_toArray, List.set_cons_zero, List.set_cons_succ]
  refine ext_take (i := 4) (v := ?_) rfl (by kernel_rfl) (by kernel_rfl) (by kernel_rfl) (fun _ _ _ h => h) (by rfl) ?_ ?_
  rotate_left
  · intro W hW; have hW0 := Ext.trans E2d.out hW; clear hW; go_simp <;> with_reducible rfl
  try simp only [Act.put, List.setIfInBounds_toArray, List.set_cons_zero, List.set_cons_succ]
  refine ext_take (i := 5) (v := ?_) rfl (by kernel_rfl) (by kernel_rfl) (by kernel_rfl) (fun _ _ _ h => h) (by rfl) ?_ ?_
  rotate_left
  · intro W hW; have hW0 := Ext.trans E2d.out hW; clear hW; go_simp <;> with_reducible rfl
  try simp only [Act.put, List.setIfInBounds_toArray, List.set_cons_zero, List.set_cons_succ]
  refine ext_take (i := 6) (v := ?_) rfl (by kernel_rfl) (by kernel_rfl) (by kernel_rfl) (fun _ _ _ h => h) (by rfl) ?_ ?_
  rotate_left
  · intro W hW; have hW0 := Ext.trans E2d.out hW; clear hW; go_simp <;> with_reducible rfl
  try simp only [Act.put, List.setIfInBounds_toArray, List.set_cons_zero, List.set_cons_succ]
  refine ext_take (i := 7) (v := ?_) rfl (by kernel_rfl) (by kernel_rfl) (by kernel_rfl) (fun _ _ _ h => h) (by rfl) ?_ ?_
  rotate_left
  · intro W hW; have hW0 := Ext.trans E2d.out hW; clear hW; go_simp <;> with_reducible rfl
  try simp only [Act.put, List.setIfInBounds_toArray, List.set_cons_zero, List.set_cons_succ]
  refine ext_take (i := 8) (v := ?_) rfl (by kernel_rfl) (by kernel_rfl) (by kernel_rfl) (fun _ _ _ h => h) (by rfl) ?_ ?_
  rotate_left
  · intro W hW; have hW0 := Ext.trans E2d.out hW; clear hW; go_simp <;> with_reducible rfl
  try simp only [Act.put, List.setIfInBounds_toArray, List.set_cons_zero, List.set_cons_succ]
  refine wpAnyH_done (by kernel_rfl) ?_ _
  go_upto_region 5 with fail
  refine ext_begin (by kernel_rfl) ?_
  have E2dd := Lib.hid (Ext.drewR E2d.out)
  refine ext_take (i := 0) (v := ?_) rfl (by kernel_rfl) (by kernel_rfl) (by kernel_rfl) (fun _ _ _ h => h) (by rfl) ?_ ?_
  rotate_left
  · intro W hW; have hW0 := Ext.trans E2dd.out hW; clear hW; go_simp <;> with_reducible rfl
  try simp only [Act.put, List.setIfInBounds_toArray, List.set_cons_zero, List.set_cons_succ]
  refine ext_take (i := 1) (v := ?_) rfl (by kernel_rfl) (by kernel_rfl) (by kernel_rfl) (fun _ _ _ h => h) (by rfl) ?_ ?_
  rotate_left
  · intro W hW; have hW0 := Ext.trans E2dd.out hW; clear hW; go_simp <;> with_reducible rfl
  try simp only [Act.put, List.setIfInBounds_toArray, List.set_cons_zero, List.set_cons_succ]
  refine ext_take (i := 2) (v := ?_) rfl (by kernel_rfl) (by kernel_rfl) (by kernel_rfl) (fun _ _ _ h => h) (by rfl) ?_ ?_
  rotate_left
  · intro W hW; have hW0 := Ext.trans E2dd.out hW; clear hW; go_simp <;> with_reducible rfl
  try simp only [Act.put, List.setIfInBounds_toArray, List.set_cons_zero, List.set_cons_succ]
  refine ext_take (i := 3) (v := ?_) rfl (by kernel_rfl) (by kernel_rfl) (by kernel_rfl) (fun _ _ _ h => h) (by rfl) ?_ ?_
  rotate_left
  · intro W hW; have hW0 := Ext.trans E2dd.out hW; clear hW; go_simp <;> with_reducible rfl
  try simp only [Act.put, List.setIfInBounds_toArray, List.set_cons_zero, List.set_cons_succ]
  refine ext_take (i := 4) (v := ?_) rfl (by kernel_rfl) (by kernel_rfl) (by kernel_rfl) (fun _ _ _ h => h) (by rfl) ?_ ?_
  rotate_left
  · intro W hW; have hW0 := Ext.trans E2dd.out hW; clear hW; go_simp <;> with_reducible rfl
  try simp only [Act.put, List.setIfInBounds_toArray, List.set_cons_zero, List.set_cons_succ]
  refine ext_take (i := 5) (v := ?_) rfl (by kernel_rfl) (by kernel_rfl) (by kernel_rfl) (fun _ _ _ h => h) (by rfl) ?_ ?_
  rotate_left
  · intro W hW; have hW0 := Ext.trans E2dd.out hW; clear hW; go_simp <;> with_reducible rfl
  try simp only [Act.put, List.setIfInBounds_toArray, List.set_cons_zero, List.set_cons_succ]
  refine ext_take (i := 6) (v := ?_) rfl (by kernel_rfl) (by kernel_rfl) (by kernel_rfl) (fun _ _ _ h => h) (by rfl) ?_ ?_
  rotate_left
  · intro W hW; have hW0 := Ext.trans E2dd.out hW; clear hW; go_simp <;> with_reducible rfl
  try simp only [Act.put, List.setIfInBounds_toArray, List.set_cons_zero, List.set_cons_succ]
  refine ext_take (i := 7) (v := ?_) rfl (by kernel_rfl) (by kernel_rfl) (by kernel_rfl) (fun _ _ _ h => h) (by rfl) ?_ ?_
  rotate_left
  · intro W hW; have hW0 := Ext.trans E2dd.out hW; clear hW; go_simp <;> with_reducible rfl
  try simp only [Act.put, List.setIfInBounds_toArray, List.set_cons_zero, List.set_cons_succ]
  refine ext_take (i := 8) (v := ?_) rfl (by kernel_rfl) (by kernel_rfl) (by kernel_rfl) (fun _ _ _ h => h) (by rfl) ?_ ?_
  rotate_left
  · intro W hW; have hW0 := Ext.trans E2dd.out hW; clear hW; go_simp <;> with_reducible rfl
  try simp only [Act.put, List.setIfInBounds_toArray, List.set_cons_zero, List.set_cons_succ]
  refine ext_take (i := 9) (v := ?_) rfl (by kernel_rfl) (by kernel_rfl) (by kernel_rfl) (fun _ _ _ h => h) (by rfl) ?_ ?_
  rotate_left
  · intro W hW; have hW0 := Ext.trans E2dd.out hW; clear hW; go_simp <;> with_reducible rfl
  try simp only [Act.put, List.setIfInBounds_toArray, List.set_cons_zero, List.set_cons_succ]
  refine wpAnyH_done (by kernel_rfl) ?_ _
  go_upto_region 7 with fail
  refine ext_begin (by kernel_rfl) ?_
  have E2ddd := Lib.hid (Ext.drewR E2dd.out)
  refine ext_take (i := 0) (v := ?_) rfl (by kernel_rfl) (by kernel_rfl) (by kernel_rfl) (fun _ _ _ h => h) (by rfl) ?_ ?_
  rotate_left
  · intro W hW; have hW0 := Ext.trans E2ddd.out hW; clear hW; go_simp <;> with_reducible rfl
  try simp only [Act.put, List.setIfInBounds_toArray, List.set_cons_zero, List.set_cons_succ]
  refine ext_take (i := 1) (v := ?_) rfl (by kernel_rfl) (by kernel_rfl) (by kernel_rfl) (fun _ _ _ h => h) (by rfl) ?_ ?_
  rotate_left
  · intro W hW; have hW0 := Ext.trans E2ddd.out hW; clear hW; go_simp <;> with_reducible rfl
  try simp only [Act.put, List.setIfInBounds_toArray, List.set_cons_zero, List.set_cons_succ]
  refine ext_take (i := 2) (v := ?_) rfl (by kernel_rfl) (by kernel_rfl) (by kernel_rfl) (fun _ _ _ h => h) (by rfl) ?_ ?_
  rotate_left
  · intro W hW; have hW0 := Ext.trans E2ddd.out hW; clear hW; go_simp <;> with_reducible rfl
  try simp only [Act.put, List.setIfInBounds_toArray, List.set_cons_zero, List.set_cons_succ]
  refine ext_take (i := 3) (v := ?_) rfl (by kernel_rfl) (by kernel_rfl) (by kernel_rfl) (fun _ _ _ h => h) (by rfl) ?_ ?_
  rotate_left
  · intro W hW; have hW0 := Ext.trans E2ddd.out hW; clear hW; go_simp <;> with_reducible rfl
  try simp only [Act.put, List.setIfInBounds_toArray, List.set_cons_zero, List.set_cons_succ]
  refine ext_take (i := 4) (v := ?_) rfl (by kernel_rfl) (by kernel_rfl) (by kernel_rfl) (fun _ _ _ h => h) (by rfl) ?_ ?_
  rotate_left
  · intro W hW; have hW0 := Ext.trans E2ddd.out hW; clear hW; go_simp <;> with_reducible rfl
  try simp only [Act.put, List.setIfInBounds_toArray, List.set_cons_zero, List.set_cons_succ]
  refine ext_take (i := 5) (v := ?_) rfl (by kernel_rfl) (by kernel_rfl) (by kernel_rfl) (fun _ _ _ h => h) (by rfl) ?_ ?_
  rotate_left
  · intro W hW; have hW0 := Ext.trans E2ddd.out hW; clear hW; go_simp <;> with_reducible rfl
  try simp only [Act.put, List.setIfInBounds_toArray, List.set_cons_zero, List.set_cons_succ]
  refine ext_take (i := 6) (v := ?_) rfl (by kernel_rfl) (by kernel_rfl) (by kernel_rfl) (fun _ _ _ h => h) (by rfl) ?_ ?_
  rotate_left
  · intro W hW; have hW0 := Ext.trans E2ddd.out hW; clear hW; go_simp <;> with_reducible rfl
  try simp only [Act.put, List.setIfInBounds_toArray, List.set_cons_zero, List.set_cons_succ]
  refine ext_take (i := 7) (v := ?_) rfl (by kernel_rfl) (by kernel_rfl) (by kernel_rfl) (fun _ _ _ h => h) (by rfl) ?_ ?_
  rotate_left
  · intro W hW; have hW0 := Ext.trans E2ddd.out hW; clear hW; go_simp <;> with_reducible rfl
  try simp only [Act.put, List.setIfInBounds_toArray, List.set_cons_zero, List.set_cons_succ]
  refine ext_take (i := 8) (v := ?_) rfl (by kernel_rfl) (by kernel_rfl) (by kernel_rfl) (fun _ _ _ h => h) (by rfl) ?_ ?_
  rotate_left
  · intro W hW; have hW0 := Ext.trans E2ddd.out hW; clear hW; go_simp <;> with_reducible rfl
  try simp only [Act.put, List.setIfInBounds_toArray, List.set_cons_zero, List.set_cons_succ]
  refine ext_call (i := 9) rfl (by kernel_rfl) (by rfl) (fun K' hK => ?_)
  go_simp
  (go_at_call 35; (with_reducible refine (CF.out _ E2ddd.out).mono ?_); rintro e w3 ⟨rfl, hx⟩; refine hK _ _ hx ?_; clear hK)
  have Ew3 := Lib.hid (Ext.trans E2ddd.out hx)
  clear hx
  try simp only [Act.put, List.setIfInBounds_toArray, List.set_cons_zero, List.set_cons_succ]
  refine ext_take (i := 10) (v := ?_) rfl (by kernel_rfl) (by kernel_rfl) (by kernel_rfl) (fun _ _ _ h => h) (by rfl) ?_ ?_
  rotate_left
  · intro W hW; have hW0 := Ext.trans Ew3.out hW; clear hW; go_simp <;> with_reducible rfl
  try simp only [Act.put, List.setIfInBounds_toArray, List.set_cons_zero, List.set_cons_succ]
  refine ext_take (i := 11) (v := ?_) rfl (by kernel_rfl) (by kernel_rfl) (by kernel_rfl) (fun _ _ _ h => h) (by rfl) ?_ ?_
  rotate_left
  · intro W hW; have hW0 := Ext.trans Ew3.out hW; clear hW; go_simp <;> with_reducible rfl
  try simp only [Act.put, List.setIfInBounds_toArray, List.set_cons_zero, List.set_cons_succ]
  refine wpAnyH_done (by kernel_rfl) ?_ _
  have EX := Lib.hid Ew3.out
  clear y0 y1 y2 y3 y4 z0_0 z0_1 z1_0 z1_1
  go_wp2_with fail
  try go_ret
  exact hD.out _ _ ⟨rfl, Ext.trans X0.out EX.out⟩

set_option maxRecDepth 8000 in
set_option maxHeartbeats 16000000 in
theorem racc_5 (x : Nat) (n kep : Int) (kns : List Int) (pr pn ar an : Int) (has : Bool) (vep : Int) (vns : List Int) (ep br bn : Int) (A : Option Addr) (cap : Nat) (l : List Int) (veto : Bool) (w : World) (H : XAt w x ⟨n, kep, kns, pr, pn, ar, an, has, vep, vns⟩) (hl : l.length ≤ 1000000) (hs : Sl i64 w A l) (hb1 : -9223372036854775808 ≤ ep ∧ ep ≤ 9223372036854775807) (hk0 : 0 ≤ kep ∧ kep ≤ 1073741824) (hkl : kns.length ≤ 1000000) (hm : mayBal br bn = true) (hc : mayChainB ep l = true) (h3 : ep = kep + 1) (h5 : nextB kep ep kns l n = true) (h6 : cmpBal br bn pr pn < 0) :
    Calls Try.prog 40 #[.pointer (some ⟨x, 0, none⟩), .agg #[.int .i64 ep, .slice A l.length cap], .agg #[.int .i64 br, .int .i64 bn], .bool veto] w fun e w' => e = .returned (.int .i64 7) ∧ Ext w w' := by
  refine hide_post fun D hD => ?_
  have hlt := H.lt
  have HX := Lib.hid H
  obtain ⟨kA, kc, vA, vc, kB, hk, hv⟩ := H
  simp only at hk hv
  obtain ⟨N, hN⟩ : ∃ N, N = l.length := ⟨_, rfl⟩
  rw [← hN]
  obtain ⟨w0, hw0⟩ : ∃ w0, w0 = ((w.alloc (.cells #[.int .i64 ep, .slice A N cap] 26)).alloc (.cells #[.int .i64 br, .int .i64 bn] 23)) := ⟨_, rfl⟩
  have hb0 : Ext w w0 := by rw [hw0]; exact Ext.trans (Ext.trans (Ext.refl _) (ext_al _ _)) (ext_al _ _)
  have hz0 : w0.heap.size = w.heap.size + 2 := by rw [hw0]; simp
  have KB0 : Hid (Blk w0 (w.heap.size) 26 #[.int .i64 ep, .slice A N cap]) := by show Blk _ _ _ _; rw [hw0]; exact ((Blk.new' _ _ _ _ (by simp)).alloc _)
  have z0_0 : ∀ V, Ext w0 V → V.cell? ⟨w.heap.size, 0, none⟩ = some (.int .i64 ep) := fun V h => (KB0.out.stay h).cell 0
  have z0_1 : ∀ V, Ext w0 V → V.cell? ⟨w.heap.size, 1, none⟩ = some (.slice A N cap) := fun V h => (KB0.out.stay h).cell 1
  have KB1 : Hid (Blk w0 (w.heap.size + 1) 23 #[.int .i64 br, .int .i64 bn]) := by show Blk _ _ _ _; rw [hw0]; exact (Blk.new' _ _ _ _ (by simp))
  have z1_0 : ∀ V, Ext w0 V → V.cell? ⟨w.heap.size + 1, 0, none⟩ = some (.int .i64 br) := fun V h => (KB1.out.stay h).cell 0
  have z1_1 : ∀ V, Ext w0 V → V.cell? ⟨w.heap.size + 1, 1, none⟩ = some (.int .i64 bn) := fun V h => (KB1.out.stay h).cell 1
  have y0 : ∀ V, Ext w0 V → V.cell? ⟨x, 0, none⟩ = some (.int .i64 n) := fun V h => ((kB.stay hb0).stay h).cell 0
  have y1 : ∀ V, Ext w0 V → V.cell? ⟨x, 1, none⟩ = some (.int .i64 kep) := fun V h => ((kB.stay hb0).stay h).cell 1
  have y2 : ∀ V, Ext w0 V → V.cell? ⟨x, 2, none⟩ = some (.slice kA kns.length kc) := fun V h => ((kB.stay hb0).stay h).cell 2
  have y3 : ∀ V, Ext w0 V → V.cell? ⟨x, 3, none⟩ = some (.int .i64 pr) := fun V h => ((kB.stay hb0).stay h).cell 3
  have y4 : ∀ V, Ext w0 V → V.cell? ⟨x, 4, none⟩ = some (.int .i64 pn) := fun V h => ((kB.stay hb0).stay h).cell 4
  have HSL0 : Hid (∀ V, Ext w0 V → Sl i64 V A l) := fun V h => hs.stay (Ext.trans hb0 h)
  have HNN := Lib.hid hN
  have HL : Hid (l.length ≤ 1000000) := hl
  have KBW := Lib.hid kB
  have HK := Lib.hid hk
  have HV := Lib.hid hv
  have HW := Lib.hid hw0
  have X0 := Lib.hid hb0
  have HZ0 := Lib.hid hz0
  have HLT := Lib.hid hlt
  have CM : Hid (∀ V, Calls Try.prog 13 #[.agg #[.int .i64 br, .int .i64 bn]] V fun e w' => e = .returned (.bool true) ∧ Ext V w') := fun V => by rw [← hm]; exact refMayBal_any br bn V
  have CMC : Hid (∀ V, Ext w0 V → Calls Try.prog 14 #[.agg #[.int .i64 ep, .slice A N cap]] V fun e w' => e = .returned (.bool true) ∧ Ext V w') := fun V h => by rw [← hc, hN]; exact refMayChain_any ep A cap l V (by omega) (hs.stay (Ext.trans hb0 h))
  have hle : ¬ ep ≤ kep := by omega
  have hsub : IntKind.i64.wrap (ep - 1) = kep := by rw [IntWalk.i64_in _ (by omega)]; omega
  have hne : (kep != kep) = false := by simp
  have CF : Hid (∀ V, Ext w0 V → Calls Try.prog 35 #[.agg #[.int .i64 kep, .slice kA kns.length kc], .agg #[.int .i64 ep, .slice A N cap], .int .i64 n] V fun e w' => e = .returned (.bool true) ∧ Ext V w') := fun V h => by rw [← h5, hN]; exact follows_any kep ep n kA A kc cap kns l V (by omega) (by omega) (hk.sl.stay (Ext.trans hb0 h)) (hs.stay (Ext.trans hb0 h))
  have CC : Hid (∀ V, Calls Try.prog 34 #[.agg #[.int .i64 br, .int .i64 bn], .agg #[.int .i64 pr, .int .i64 pn]] V fun e w' => e = .returned (.int .i64 (cmpBal br bn pr pn)) ∧ Ext V w') := fun V => refCmp_any br bn pr pn V
  clear hb0 hw0 hz0 hk hv kB hs hl hlt hN hm hc h5
  clear hkl
  generalize cmpBal br bn pr pn = cm at *
  replace h3 := Lib.hid h3
  go_enter Try.func40, Try.ntmps40
  go_upto_region 3 with (first
    | (go_at_call 14; (with_reducible refine (CMC.out _ E1.out).mono ?_); rintro e w2 ⟨rfl, hx⟩; have E2 : Hid (Ext w0 w2) := Ext.trans E1.out hx; clear hx)
    | (go_at_call 13; rw [← HW.out]; (with_reducible refine (CM.out _).mono ?_); rintro e w1 ⟨rfl, hx⟩; have E1 : Hid (Ext w0 w1) := hx; have b0 := z0_0 w1 hx; have b1 := z0_1 w1 hx; clear hx))
  try clear b0
  try clear b1
  try clear E1
  refine ext_begin (by kernel_rfl) ?_
  have E2d := Lib.hid (Ext.drewR E2.out)
  refine ext_take (i := 0) (v := ?_) rfl (by kernel_rfl) (by kernel_rfl) (by kernel_rfl) (fun _ _ _ h => h) (by rfl) ?_ ?_
  rotate_left
  · intro W hW; have hW0 := Ext.trans E2d.out hW; clear hW; go_simp <;> with_reducible rfl
  try simp only [Act.put, List.setIfInBounds_toArray, List.set_cons_zero, List.set_cons_succ]
  refine ext_take (i := 1) (v := ?_) rfl (by kernel_rfl) (by kernel_rfl) (by kernel_rfl) (fun _ _ _ h => h) (by rfl) ?_ ?_
  rotate_left
  · intro W hW; have hW0 := Ext.trans E2d.out hW; clear hW; go_simp <;> with_reducible rfl
  try simp only [Act.put, List.setIfInBounds_toArray, List.set_cons_zero, List.set_cons_succ]
  refine ext_take (i := 2) (v := ?_) rfl (by kernel_rfl) (by kernel_rfl) (by kernel_rfl) (fun _ _ _ h => h) (by rfl) ?_ ?_
  rotate_left
  · intro W hW; have hW0 := Ext.trans E2d.out hW; clear hW; go_simp <;> with_reducible rfl
  try simp only [Act.put, List.setIfInBounds_toArray, List.set_cons_zero, List.set_cons_succ]
  refine ext_take (i := 3) (v := ?_) rfl (by kernel_rfl) (by kernel_rfl) (by kernel_rfl) (fun _ _ _ h => h) (by rfl) ?_ ?_
  rotate_left
  · intro W hW; have hW0 := Ext.trans E2d.out hW; clear hW; go_simp <;> with_reducible rfl
  try simp only [Act.put, List.setIfInBounds_toArray, List.set_cons_zero, List.set_cons_succ]
  refine ext_take (i := 4) (v := ?_) rfl (by kernel_rfl) (by kernel_rfl) (by kernel_rfl) (fun _ _ _ h => h) (by rfl) ?_ ?_
  rotate_left
  · intro W hW; have hW0 := Ext.trans E2d.out hW; clear hW; go_simp <;> with_reducible rfl
  try simp only [Act.put, List.setIfInBounds_toArray, List.set_cons_zero, List.set_cons_succ]
  refine ext_take (i := 5) (v := ?_) rfl (by kernel_rfl) (by kernel_rfl) (by kernel_rfl) (fun _ _ _ h => h) (by rfl) ?_ ?_
  rotate_left
  · intro W hW; have hW0 := Ext.trans E2d.out hW; clear hW; go_simp <;> with_reducible rfl
  try simp only [Act.put, List.setIfInBounds_toArray, List.set_cons_zero, List.set_cons_succ]
  refine ext_take (i := 6) (v := ?_) rfl (by kernel_rfl) (by kernel_rfl) (by kernel_rfl) (fun _ _ _ h => h) (by rfl) ?_ ?_
  rotate_left
  · intro W hW; have hW0 := Ext.trans E2d.out hW; clear hW; go_simp <;> with_reducible rfl
  try simp only [Act.put, List.setIfInBounds_toArray, List.set_cons_zero, List.set_cons_succ]
  refine ext_take (i := 7) (v := ?_) rfl (by kernel_rfl) (by kernel_rfl) (by kernel_rfl) (fun _ _ _ h => h) (by rfl) ?_ ?_
  rotate_left
  · intro W hW; have hW0 := Ext.trans E2d.out hW; clear hW; go_simp <;> with_reducible rfl
  try simp only [Act.put, List.setIfInBounds_toArray, List.set_cons_zero, List.set_cons_succ]
  refine ext_take (i := 8) (v := ?_) rfl (by kernel_rfl) (by kernel_rfl) (by kernel_rfl) (fun _ _ _ h => h) (by rfl) ?_ ?_
  rotate_left
  · intro W hW; have hW0 := Ext.trans E2d.out hW; clear hW; go_simp <;> with_reducible rfl
  try simp only [Act.put, List.setIfInBounds_toArray, List.set_cons_zero, List.set_cons_succ]
  refine wpAnyH_done (by kernel_rfl) ?_ _
  go_upto_region 5 with fail
  refine ext_begin (by kernel_rfl) ?_
  have E2dd := Lib.hid (Ext.drewR E2d.out)
  refine ext_take (i := 0) (v := ?_) rfl (by kernel_rfl) (by kernel_rfl) (by kernel_rfl) (fun _ _ _ h => h) (by rfl) ?_ ?_
  rotate_left
  · intro W hW; have hW0 := Ext.trans E2dd.out hW; clear hW; go_simp <;> with_reducible rfl
  try simp only [Act.put, List.setIfInBounds_toArray, List.set_cons_zero, List.set_cons_succ]
  refine ext_take (i := 1) (v := ?_) rfl (by kernel_rfl) (by kernel_rfl) (by kernel_rfl) (fun _ _ _ h => h) (by rfl) ?_ ?_
  rotate_left
  · intro W hW; have hW0 := Ext.trans E2dd.out hW; clear hW; go_simp <;> with_reducible rfl
  try simp only [Act.put, List.setIfInBounds_toArray, List.set_cons_zero, List.set_cons_succ]
  refine ext_take (i := 2) (v := ?_) rfl (by kernel_rfl) (by kernel_rfl) (by kernel_rfl) (fun _ _ _ h => h) (by rfl) ?_ ?_
  rotate_left
  · intro W hW; have hW0 := Ext.trans E2dd.out hW; clear hW; go_simp <;> with_reducible rfl
  try simp only [Act.put, List.setIfInBounds_toArray, List.set_cons_zero, List.set_cons_succ]
  refine ext_take (i := 3) (v := ?_) rfl (by kernel_rfl) (by kernel_rfl) (by kernel_rfl) (fun _ _ _ h => h) (by rfl) ?_ ?_
  rotate_left
  · intro W hW; have hW0 := Ext.trans E2dd.out hW; clear hW; go_simp <;> with_reducible rfl
  try simp only [Act.put, List.setIfInBounds_toArray, List.set_cons_zero, List.set_cons_succ]
  refine ext_take (i := 4) (v := ?_) rfl (by kernel_rfl) (by kernel_rfl) (by kernel_rfl) (fun _ _ _ h => h) (by rfl) ?_ ?_
  rotate_left
  · intro W hW; have hW0 := Ext.trans E2dd.out hW; clear hW; go_simp <;> with_reducible rfl
  try simp only [Act.put, List.setIfInBounds_toArray, List.set_cons_zero, List.set_cons_succ]
  refine ext_take (i := 5) (v := ?_) rfl (by kernel_rfl) (by kernel_rfl) (by kernel_rfl) (fun _ _ _ h => h) (by rfl) ?_ ?_
  rotate_left
  · intro W hW; have hW0 := Ext.trans E2dd.out hW; clear hW; go_simp <;> with_reducible rfl
  try simp only [Act.put, List.setIfInBounds_toArray, List.set_cons_zero, List.set_cons_succ]
  refine ext_take (i := 6) (v := ?_) rfl (by kernel_rfl) (by kernel_rfl) (by kernel_rfl) (fun _ _ _ h => h) (by rfl) ?_ ?_
  rotate_left
  · intro W hW; have hW0 := Ext.trans E2dd.out hW; clear hW; go_simp <;> with_reducible rfl
  try simp only [Act.put, List.setIfInBounds_toArray, List.set_cons_zero, List.set_cons_succ]
  refine ext_take (i := 7) (v := ?_) rfl (by kernel_rfl) (by kernel_rfl) (by kernel_rfl) (fun _ _ _ h => h) (by rfl) ?_ ?_
  rotate_left
  · intro W hW; have hW0 := Ext.trans E2dd.out hW; clear hW; go_simp <;> with_reducible rfl
  try simp only [Act.put, List.setIfInBounds_toArray, List.set_cons_zero, List.set_cons_succ]
  refine ext_take (i := 8) (v := ?_) rfl (by kernel_rfl) (by kernel_rfl) (by kernel_rfl) (fun _ _ _ h => h) (by rfl) ?_ ?_
  rotate_left
  · intro W hW; have hW0 := Ext.trans E2dd.out hW; clear hW; go_simp <;> with_reducible rfl
  try simp only [Act.put, List.setIfInBounds_toArray, List.set_cons_zero, List.set_cons_succ]
  refine ext_take (i := 9) (v := ?_) rfl (by kernel_rfl) (by kernel_rfl) (by kernel_rfl) (fun _ _ _ h => h) (by rfl) ?_ ?_
  rotate_left
  · intro W hW; have hW0 := Ext.trans E2dd.out hW; clear hW; go_simp <;> with_reducible rfl
  try simp only [Act.put, List.setIfInBounds_toArray, List.set_cons_zero, List.set_cons_succ]
  refine wpAnyH_done (by kernel_rfl) ?_ _
  go_upto_region 7 with fail
  refine ext_begin (by kernel_rfl) ?_
  have E2ddd := Lib.hid (Ext.drewR E2dd.out)
  refine ext_take (i := 0) (v := ?_) rfl (by kernel_rfl) (by kernel_rfl) (by kernel_rfl) (fun _ _ _ h => h) (by rfl) ?_ ?_
  rotate_left
  · intro W hW; have hW0 := Ext.trans E2ddd.out hW; clear hW; go_simp <;> with_reducible rfl
  try simp only [Act.put, List.setIfInBounds_toArray, List.set_cons_zero, List.set_cons_succ]
  refine ext_take (i := 1) (v := ?_) rfl (by kernel_rfl) (by kernel_rfl) (by kernel_rfl) (fun _ _ _ h => h) (by rfl) ?_ ?_
  rotate_left
  · intro W hW; have hW0 := Ext.trans E2ddd.out hW; clear hW; go_simp <;> with_reducible rfl
  try simp only [Act.put, List.setIfInBounds_toArray, List.set_cons_zero, List.set_cons_succ]
  refine ext_take (i := 2) (v := ?_) rfl (by kernel_rfl) (by kernel_rfl) (by kernel_rfl) (fun _ _ _ h => h) (by rfl) ?_ ?_
  rotate_left
  · intro W hW; have hW0 := Ext.trans E2ddd.out hW; clear hW; go_simp <;> with_reducible rfl
  try simp only [Act.put, List.setIfInBounds_toArray, List.set_cons_zero, List.set_cons_succ]
  refine ext_take (i := 3) (v := ?_) rfl (by kernel_rfl) (by kernel_rfl) (by kernel_rfl) (fun _ _ _ h => h) (by rfl) ?_ ?_
  rotate_left
  · intro W hW; have hW0 := Ext.trans E2ddd.out hW; clear hW; go_simp <;> with_reducible rfl
  try simp only [Act.put, List.setIfInBounds_toArray, List.set_cons_zero, List.set_cons_succ]
  refine ext_take (i := 4) (v := ?_) rfl (by kernel_rfl) (by kernel_rfl) (by kernel_rfl) (fun _ _ _ h => h) (by rfl) ?_ ?_
  rotate_left
  · intro W hW; have hW0 := Ext.trans E2ddd.out hW; clear hW; go_simp <;> with_reducible rfl
  try simp only [Act.put, List.setIfInBounds_toArray, List.set_cons_zero, List.set_cons_succ]
  refine ext_take (i := 5) (v := ?_) rfl (by kernel_rfl) (by kernel_rfl) (by kernel_rfl) (fun _ _ _ h => h) (by rfl) ?_ ?_
  rotate_left
  · intro W hW; have hW0 := Ext.trans E2ddd.out hW; clear hW; go_simp <;> with_reducible rfl
  try simp only [Act.put, List.setIfInBounds_toArray, List.set_cons_zero, List.set_cons_succ]
  refine ext_take (i := 6) (v := ?_) rfl (by kernel_rfl) (by kernel_rfl) (by kernel_rfl) (fun _ _ _ h => h) (by rfl) ?_ ?_
  rotate_left
  · intro W hW; have hW0 := Ext.trans E2ddd.out hW; clear hW; go_simp <;> with_reducible rfl
  try simp only [Act.put, List.setIfInBounds_toArray, List.set_cons_zero, List.set_cons_succ]
  refine ext_take (i := 7) (v := ?_) rfl (by kernel_rfl) (by kernel_rfl) (by kernel_rfl) (fun _ _ _ h => h) (by rfl) ?_ ?_
  rotate_left
  · intro W hW; have hW0 := Ext.trans E2ddd.out hW; clear hW; go_simp <;> with_reducible rfl
  try simp only [Act.put, List.setIfInBounds_toArray, List.set_cons_zero, List.set_cons_succ]
  refine ext_take (i := 8) (v := ?_) rfl (by kernel_rfl) (by kernel_rfl) (by kernel_rfl) (fun _ _ _ h => h) (by rfl) ?_ ?_
  rotate_left
  · intro W hW; have hW0 := Ext.trans E2ddd.out hW; clear hW; go_simp <;> with_reducible rfl
  try simp only [Act.put, List.setIfInBounds_toArray, List.set_cons_zero, List.set_cons_succ]
  refine ext_call (i := 9) rfl (by kernel_rfl) (by rfl) (fun K' hK => ?_)
  go_simp
  (go_at_call 35; (with_reducible refine (CF.out _ E2ddd.out).mono ?_); rintro e w3 ⟨rfl, hx⟩; refine hK _ _ hx ?_; clear hK)
  have Ew3 := Lib.hid (Ext.trans E2ddd.out hx)
  clear hx
  try simp only [Act.put, List.setIfInBounds_toArray, List.set_cons_zero, List.set_cons_succ]
  refine ext_take (i := 10) (v := ?_) rfl (by kernel_rfl) (by kernel_rfl) (by kernel_rfl) (fun _ _ _ h => h) (by rfl) ?_ ?_
  rotate_left
  · intro W hW; have hW0 := Ext.trans Ew3.out hW; clear hW; go_simp <;> with_reducible rfl
  try simp only [Act.put, List.setIfInBounds_toArray, List.set_cons_zero, List.set_cons_succ]
  refine ext_take (i := 11) (v := ?_) rfl (by kernel_rfl) (by kernel_rfl) (by kernel_rfl) (fun _ _ _ h => h) (by rfl) ?_ ?_
  rotate_left
  · intro W hW; have hW0 := Ext.trans Ew3.out hW; clear hW; go_simp <;> with_reducible rfl
  try simp only [Act.put, List.setIfInBounds_toArray, List.set_cons_zero, List.set_cons_succ]
  refine wpAnyH_done (by kernel_rfl) ?_ _
  go_upto_region 9 with fail
  refine ext_begin (by kernel_rfl) ?_
  have Ew3d := Lib.hid (Ext.drewR Ew3.out)
  refine ext_take (i := 0) (v := ?_) rfl (by kernel_rfl) (by kernel_rfl) (by kernel_rfl) (fun _ _ _ h => h) (by rfl) ?_ ?_
  rotate_left
  · intro W hW; have hW0 := Ext.trans Ew3d.out hW; clear hW; go_simp <;> with_reducible rfl
  try simp only [Act.put, List.setIfInBounds_toArray, List.set_cons_zero, List.set_cons_succ]
  refine ext_take (i := 1) (v := ?_) rfl (by kernel_rfl) (by kernel_rfl) (by kernel_rfl) (fun _ _ _ h => h) (by rfl) ?_ ?_
  rotate_left
  · intro W hW; have hW0 := Ext.trans Ew3d.out hW; clear hW; go_simp <;> with_reducible rfl
  try simp only [Act.put, List.setIfInBounds_toArray, List.set_cons_zero, List.set_cons_succ]
  refine ext_take (i := 2) (v := ?_) rfl (by kernel_rfl) (by kernel_rfl) (by kernel_rfl) (fun _ _ _ h => h) (by rfl) ?_ ?_
  rotate_left
  · intro W hW; have hW0 := Ext.trans Ew3d.out hW; clear hW; go_simp <;> with_reducible rfl
  try simp only [Act.put, List.setIfInBounds_toArray, List.set_cons_zero, List.set_cons_succ]
  refine ext_take (i := 3) (v := ?_) rfl (by kernel_rfl) (by kernel_rfl) (by kernel_rfl) (fun _ _ _ h => h) (by rfl) ?_ ?_
  rotate_left
  · intro W hW; have hW0 := Ext.trans Ew3d.out hW; clear hW; go_simp <;> with_reducible rfl
  try simp only [Act.put, List.setIfInBounds_toArray, List.set_cons_zero, List.set_cons_succ]
  refine ext_take (i := 4) (v := ?_) rfl (by kernel_rfl) (by kernel_rfl) (by kernel_rfl) (fun _ _ _ h => h) (by rfl) ?_ ?_
  rotate_left
  · intro W hW; have hW0 := Ext.trans Ew3d.out hW; clear hW; go_simp <;> with_reducible rfl
  try simp only [Act.put, List.setIfInBounds_toArray, List.set_cons_zero, List.set_cons_succ]
  refine ext_take (i := 5) (v := ?_) rfl (by kernel_rfl) (by kernel_rfl) (by kernel_rfl) (fun _ _ _ h => h) (by rfl) ?_ ?_
  rotate_left
  · intro W hW; have hW0 := Ext.trans Ew3d.out hW; clear hW; go_simp <;> with_reducible rfl
  try simp only [Act.put, List.setIfInBounds_toArray, List.set_cons_zero, List.set_cons_succ]
  refine ext_call (i := 6) rfl (by kernel_rfl) (by rfl) (fun K' hK => ?_)
  go_simp
  (go_at_call 34; (with_reducible refine (CC.out _).mono ?_); rintro e w4 ⟨rfl, hx⟩; refine hK _ _ hx ?_; clear hK)
  have Ew4 := Lib.hid (Ext.trans Ew3d.out hx)
  clear hx
  try simp only [Act.put, List.setIfInBounds_toArray, List.set_cons_zero, List.set_cons_succ]
  refine ext_take (i := 7) (v := ?_) rfl (by kernel_rfl) (by kernel_rfl) (by kernel_rfl) (fun _ _ _ h => h) (by rfl) ?_ ?_
  rotate_left
  · intro W hW; have hW0 := Ext.trans Ew4.out hW; clear hW; go_simp <;> with_reducible rfl
  try simp only [Act.put, List.setIfInBounds_toArray, List.set_cons_zero, List.set_cons_succ]
  refine ext_take (i := 8) (v := ?_) rfl (by kernel_rfl) (by kernel_rfl) (by kernel_rfl) (fun _ _ _ h => h) (by rfl) ?_ ?_
  rotate_left
  · intro W hW; have hW0 := Ext.trans Ew4.out hW; clear hW; go_simp <;> with_reducible rfl
  try simp only [Act.put, List.setIfInBounds_toArray, List.set_cons_zero, List.set_cons_succ]
  refine wpAnyH_done (by kernel_rfl) ?_ _
  have EX := Lib.hid Ew4.out
  clear y0 y1 y2 y3 y4 z0_0 z0_1 z1_0 z1_1
  go_wp2_with fail
  try go_ret
  exact hD.out _ _ ⟨rfl, Ext.trans X0.out EX.out⟩

set_option maxRecDepth 8000 in
set_option maxHeartbeats 16000000 in
theorem racc_6 (x : Nat) (n kep : Int) (kns : List Int) (pr pn ar an : Int) (has : Bool) (vep : Int) (vns : List Int) (ep br bn : Int) (A : Option Addr) (cap : Nat) (l : List Int) (veto : Bool) (w : World) (H : XAt w x ⟨n, kep, kns, pr, pn, ar, an, has, vep, vns⟩) (hl : l.length ≤ 1000000) (hs : Sl i64 w A l) (hb1 : -9223372036854775808 ≤ ep ∧ ep ≤ 9223372036854775807) (hk0 : 0 ≤ kep ∧ kep ≤ 1073741824) (hkl : kns.length ≤ 1000000) (hm : mayBal br bn = true) (hc : mayChainB ep l = true) (h3 : ep = kep + 1) (h5 : nextB kep ep kns l n = true) (h6 : ¬ cmpBal br bn pr pn < 0) (hv9 : veto = true) :
    Calls Try.prog 40 #[.pointer (some ⟨x, 0, none⟩), .agg #[.int .i64 ep, .slice A l.length cap], .agg #[.int .i64 br, .int .i64 bn], .bool veto] w fun e w' => e = .returned (.int .i64 8) ∧ Ext w w' := by
  subst hv9
  refine hide_post fun D hD => ?_
  have hlt := H.lt
  have HX := Lib.hid H
  obtain ⟨kA, kc, vA, vc, kB, hk, hv⟩ := H
  simp only at hk hv
  obtain ⟨N, hN⟩ : ∃ N, N = l.length := ⟨_, rfl⟩
  rw [← hN]
  obtain ⟨w0, hw0⟩ : ∃ w0, w0 = ((w.alloc (.cells #[.int .i64 ep, .slice A N cap] 26)).alloc (.cells #[.int .i64 br, .int .i64 bn] 23)) := ⟨_, rfl⟩
  have hb0 : Ext w w0 := by rw [hw0]; exact Ext.trans (Ext.trans (Ext.refl _) (ext_al _ _)) (ext_al _ _)
  have hz0 : w0.heap.size = w.heap.size + 2 := by rw [hw0]; simp
  have KB0 : Hid (Blk w0 (w.heap.size) 26 #[.int .i64 ep, .slice A N cap]) := by show Blk _ _ _ _; rw [hw0]; exact ((Blk.new' _ _ _ _ (by simp)).alloc _)
  have z0_0 : ∀ V, Ext w0 V → V.cell? ⟨w.heap.size, 0, none⟩ = some (.int .i64 ep) := fun V h => (KB0.out.stay h).cell 0
  have z0_1 : ∀ V, Ext w0 V → V.cell? ⟨w.heap.size, 1, none⟩ = some (.slice A N cap) := fun V h => (KB0.out.stay h).cell 1
  have KB1 : Hid (Blk w0 (w.heap.size + 1) 23 #[.int .i64 br, .int .i64 bn]) := by show Blk _ _ _ _; rw [hw0]; exact (Blk.new' _ _ _ _ (by simp))
  have z1_0 : ∀ V, Ext w0 V → V.cell? ⟨w.heap.size + 1, 0, none⟩ = some (.int .i64 br) := fun V h => (KB1.out.stay h).cell 0
  have z1_1 : ∀ V, Ext w0 V → V.cell? ⟨w.heap.size + 1, 1, none⟩ = some (.int .i64 bn) := fun V h => (KB1.out.stay h).cell 1
  have y0 : ∀ V, Ext w0 V → V.cell? ⟨x, 0, none⟩ = some (.int .i64 n) := fun V h => ((kB.stay hb0).stay h).cell 0
  have y1 : ∀ V, Ext w0 V → V.cell? ⟨x, 1, none⟩ = some (.int .i64 kep) := fun V h => ((kB.stay hb0).stay h).cell 1
  have y2 : ∀ V, Ext w0 V → V.cell? ⟨x, 2, none⟩ = some (.slice kA kns.length kc) := fun V h => ((kB.stay hb0).stay h).cell 2
  have y3 : ∀ V, Ext w0 V → V.cell? ⟨x, 3, none⟩ = some (.int .i64 pr) := fun V h => ((kB.stay hb0).stay h).cell 3
  have y4 : ∀ V, Ext w0 V → V.cell? ⟨x, 4, none⟩ = some (.int .i64 pn) := fun V h => ((kB.stay hb0).stay h).cell 4
  have HSL0 : Hid (∀ V, Ext w0 V → Sl i64 V A l) := fun V h => hs.stay (Ext.trans hb0 h)
  have HNN := Lib.hid hN
  have HL : Hid (l.length ≤ 1000000) := hl
  have KBW := Lib.hid kB
  have HK := Lib.hid hk
  have HV := Lib.hid hv
  have HW := Lib.hid hw0
  have X0 := Lib.hid hb0
  have HZ0 := Lib.hid hz0
  have HLT := Lib.hid hlt
  have CM : Hid (∀ V, Calls Try.prog 13 #[.agg #[.int .i64 br, .int .i64 bn]] V fun e w' => e = .returned (.bool true) ∧ Ext V w') := fun V => by rw [← hm]; exact refMayBal_any br bn V
  have CMC : Hid (∀ V, Ext w0 V → Calls Try.prog 14 #[.agg #[.int .i64 ep, .slice A N cap]] V fun e w' => e = .returned (.bool true) ∧ Ext V w') := fun V h => by rw [← hc, hN]; exact refMayChain_any ep A cap l V (by omega) (hs.stay (Ext.trans hb0 h))
  have hle : ¬ ep ≤ kep := by omega
  have hsub : IntKind.i64.wrap (ep - 1) = kep := by rw [IntWalk.i64_in _ (by omega)]; omega
  have hne : (kep != kep) = false := by simp
  have CF : Hid (∀ V, Ext w0 V → Calls Try.prog 35 #[.agg #[.int .i64 kep, .slice kA kns.length kc], .agg #[.int .i64 ep, .slice A N cap], .int .i64 n] V fun e w' => e = .returned (.bool true) ∧ Ext V w') := fun V h => by rw [← h5, hN]; exact follows_any kep ep n kA A kc cap kns l V (by omega) (by omega) (hk.sl.stay (Ext.trans hb0 h)) (hs.stay (Ext.trans hb0 h))
  have CC : Hid (∀ V, Calls Try.prog 34 #[.agg #[.int .i64 br, .int .i64 bn], .agg #[.int .i64 pr, .int .i64 pn]] V fun e w' => e = .returned (.int .i64 (cmpBal br bn pr pn)) ∧ Ext V w') := fun V => refCmp_any br bn pr pn V
  clear hb0 hw0 hz0 hk hv kB hs hl hlt hN hm hc h5
  clear hkl
  generalize cmpBal br bn pr pn = cm at *
  replace h3 := Lib.hid h3
  go_enter Try.func40, Try.ntmps40
  go_upto_region 3 with (first
    | (go_at_call 14; (with_reducible refine (CMC.out _ E1.out).mono ?_); rintro e w2 ⟨rfl, hx⟩; have E2 : Hid (Ext w0 w2) := Ext.trans E1.out hx; clear hx)
    | (go_at_call 13; rw [← HW.out]; (with_reducible refine (CM.out _).mono ?_); rintro e w1 ⟨rfl, hx⟩; have E1 : Hid (Ext w0 w1) := hx; have b0 := z0_0 w1 hx; have b1 := z0_1 w1 hx; clear hx))
  try clear b0
  try clear b1
  try clear E1
  refine ext_begin (by kernel_rfl) ?_
  have E2d := Lib.hid (Ext.drewR E2.out)
  refine ext_take (i := 0) (v := ?_) rfl (by kernel_rfl) (by kernel_rfl) (by kernel_rfl) (fun _ _ _ h => h) (by rfl) ?_ ?_
  rotate_left
  · intro W hW; have hW0 := Ext.trans E2d.out hW; clear hW; go_simp <;> with_reducible rfl
  try simp only [Act.put, List.setIfInBounds_toArray, List.set_cons_zero, List.set_cons_succ]
  refine ext_take (i := 1) (v := ?_) rfl (by kernel_rfl) (by kernel_rfl) (by kernel_rfl) (fun _ _ _ h => h) (by rfl) ?_ ?_
  rotate_left
  · intro W hW; have hW0 := Ext.trans E2d.out hW; clear hW; go_simp <;> with_reducible rfl
  try simp only [Act.put, List.setIfInBounds_toArray, List.set_cons_zero, List.set_cons_succ]
  refine ext_take (i := 2) (v := ?_) rfl (by kernel_rfl) (by kernel_rfl) (by kernel_rfl) (fun _ _ _ h => h) (by rfl) ?_ ?_
  rotate_left
  · intro W hW; have hW0 := Ext.trans E2d.out hW; clear hW; go_simp <;> with_reducible rfl
  try simp only [Act.put, List.setIfInBounds_toArray, List.set_cons_zero, List.set_cons_succ]
  refine ext_take (i := 3) (v := ?_) rfl (by kernel_rfl) (by kernel_rfl) (by kernel_rfl) (fun _ _ _ h => h) (by rfl) ?_ ?_
  rotate_left
  · intro W hW; have hW0 := Ext.trans E2d.out hW; clear hW; go_simp <;> with_reducible rfl
  try simp only [Act.put, List.setIfInBounds_toArray, List.set_cons_zero, List.set_cons_succ]
  refine ext_take (i := 4) (v := ?_) rfl (by kernel_rfl) (by kernel_rfl) (by kernel_rfl) (fun _ _ _ h => h) (by rfl) ?_ ?_
  rotate_left
  · intro W hW; have hW0 := Ext.trans E2d.out hW; clear hW; go_simp <;> with_reducible rfl
  try simp only [Act.put, List.setIfInBounds_toArray, List.set_cons_zero, List.set_cons_succ]
  refine ext_take (i := 5) (v := ?_) rfl (by kernel_rfl) (by kernel_rfl) (by kernel_rfl) (fun _ _ _ h => h) (by rfl) ?_ ?_
  rotate_left
  · intro W hW; have hW0 := Ext.trans E2d.out hW; clear hW; go_simp <;> with_reducible rfl
  try simp only [Act.put, List.setIfInBounds_toArray, List.set_cons_zero, List.set_cons_succ]
  refine ext_take (i := 6) (v := ?_) rfl (by kernel_rfl) (by kernel_rfl) (by kernel_rfl) (fun _ _ _ h => h) (by rfl) ?_ ?_
  rotate_left
  · intro W hW; have hW0 := Ext.trans E2d.out hW; clear hW; go_simp <;> with_reducible rfl
  try simp only [Act.put, List.setIfInBounds_toArray, List.set_cons_zero, List.set_cons_succ]
  refine ext_take (i := 7) (v := ?_) rfl (by kernel_rfl) (by kernel_rfl) (by kernel_rfl) (fun _ _ _ h => h) (by rfl) ?_ ?_
  rotate_left
  · intro W hW; have hW0 := Ext.trans E2d.out hW; clear hW; go_simp <;> with_reducible rfl
  try simp only [Act.put, List.setIfInBounds_toArray, List.set_cons_zero, List.set_cons_succ]
  refine ext_take (i := 8) (v := ?_) rfl (by kernel_rfl) (by kernel_rfl) (by kernel_rfl) (fun _ _ _ h => h) (by rfl) ?_ ?_
  rotate_left
  · intro W hW; have hW0 := Ext.trans E2d.out hW; clear hW; go_simp <;> with_reducible rfl
  try simp only [Act.put, List.setIfInBounds_toArray, List.set_cons_zero, List.set_cons_succ]
  refine wpAnyH_done (by kernel_rfl) ?_ _
  go_upto_region 5 with fail
  refine ext_begin (by kernel_rfl) ?_
  have E2dd := Lib.hid (Ext.drewR E2d.out)
  refine ext_take (i := 0) (v := ?_) rfl (by kernel_rfl) (by kernel_rfl) (by kernel_rfl) (fun _ _ _ h => h) (by rfl) ?_ ?_
  rotate_left
  · intro W hW; have hW0 := Ext.trans E2dd.out hW; clear hW; go_simp <;> with_reducible rfl
  try simp only [Act.put, List.setIfInBounds_toArray, List.set_cons_zero, List.set_cons_succ]
  refine ext_take (i := 1) (v := ?_) rfl (by kernel_rfl) (by kernel_rfl) (by kernel_rfl) (fun _ _ _ h => h) (by rfl) ?_ ?_
  rotate_left
  · intro W hW; have hW0 := Ext.trans E2dd.out hW; clear hW; go_simp <;> with_reducible rfl
  try simp only [Act.put, List.setIfInBounds_toArray, List.set_cons_zero, List.set_cons_succ]
  refine ext_take (i := 2) (v := ?_) rfl (by kernel_rfl) (by kernel_rfl) (by kernel_rfl) (fun _ _ _ h => h) (by rfl) ?_ ?_
  rotate_left
  · intro W hW; have hW0 := Ext.trans E2dd.out hW; clear hW; go_simp <;> with_reducible rfl
  try simp only [Act.put, List.setIfInBounds_toArray, List.set_cons_zero, List.set_cons_succ]
  refine ext_take (i := 3) (v := ?_) rfl (by kernel_rfl) (by kernel_rfl) (by kernel_rfl) (fun _ _ _ h => h) (by rfl) ?_ ?_
  rotate_left
  · intro W hW; have hW0 := Ext.trans E2dd.out hW; clear hW; go_simp <;> with_reducible rfl
  try simp only [Act.put, List.setIfInBounds_toArray, List.set_cons_zero, List.set_cons_succ]
  refine ext_take (i := 4) (v := ?_) rfl (by kernel_rfl) (by kernel_rfl) (by kernel_rfl) (fun _ _ _ h => h) (by rfl) ?_ ?_
  rotate_left
  · intro W hW; have hW0 := Ext.trans E2dd.out hW; clear hW; go_simp <;> with_reducible rfl
  try simp only [Act.put, List.setIfInBounds_toArray, List.set_cons_zero, List.set_cons_succ]
  refine ext_take (i := 5) (v := ?_) rfl (by kernel_rfl) (by kernel_rfl) (by kernel_rfl) (fun _ _ _ h => h) (by rfl) ?_ ?_
  rotate_left
  · intro W hW; have hW0 := Ext.trans E2dd.out hW; clear hW; go_simp <;> with_reducible rfl
  try simp only [Act.put, List.setIfInBounds_toArray, List.set_cons_zero, List.set_cons_succ]
  refine ext_take (i := 6) (v := ?_) rfl (by kernel_rfl) (by kernel_rfl) (by kernel_rfl) (fun _ _ _ h => h) (by rfl) ?_ ?_
  rotate_left
  · intro W hW; have hW0 := Ext.trans E2dd.out hW; clear hW; go_simp <;> with_reducible rfl
  try simp only [Act.put, List.setIfInBounds_toArray, List.set_cons_zero, List.set_cons_succ]
  refine ext_take (i := 7) (v := ?_) rfl (by kernel_rfl) (by kernel_rfl) (by kernel_rfl) (fun _ _ _ h => h) (by rfl) ?_ ?_
  rotate_left
  · intro W hW; have hW0 := Ext.trans E2dd.out hW; clear hW; go_simp <;> with_reducible rfl
  try simp only [Act.put, List.setIfInBounds_toArray, List.set_cons_zero, List.set_cons_succ]
  refine ext_take (i := 8) (v := ?_) rfl (by kernel_rfl) (by kernel_rfl) (by kernel_rfl) (fun _ _ _ h => h) (by rfl) ?_ ?_
  rotate_left
  · intro W hW; have hW0 := Ext.trans E2dd.out hW; clear hW; go_simp <;> with_reducible rfl
  try simp only [Act.put, List.setIfInBounds_toArray, List.set_cons_zero, List.set_cons_succ]
  refine ext_take (i := 9) (v := ?_) rfl (by kernel_rfl) (by kernel_rfl) (by kernel_rfl) (fun _ _ _ h => h) (by rfl) ?_ ?_
  rotate_left
  · intro W hW; have hW0 := Ext.trans E2dd.out hW; clear hW; go_simp <;> with_reducible rfl
  try simp only [Act.put, List.setIfInBounds_toArray, List.set_cons_zero, List.set_cons_succ]
  refine wpAnyH_done (by kernel_rfl) ?_ _
  go_upto_region 7 with fail
  refine ext_begin (by kernel_rfl) ?_
  have E2ddd := Lib.hid (Ext.drewR E2dd.out)
  refine ext_take (i := 0) (v := ?_) rfl (by kernel_rfl) (by kernel_rfl) (by kernel_rfl) (fun _ _ _ h => h) (by rfl) ?_ ?_
  rotate_left
  · intro W hW; have hW0 := Ext.trans E2ddd.out hW; clear hW; go_simp <;> with_reducible rfl
  try simp only [Act.put, List.setIfInBounds_toArray, List.set_cons_zero, List.set_cons_succ]
  refine ext_take (i := 1) (v := ?_) rfl (by kernel_rfl) (by kernel_rfl) (by kernel_rfl) (fun _ _ _ h => h) (by rfl) ?_ ?_
  rotate_left
  · intro W hW; have hW0 := Ext.trans E2ddd.out hW; clear hW; go_simp <;> with_reducible rfl
  try simp only [Act.put, List.setIfInBounds_toArray, List.set_cons_zero, List.set_cons_succ]
  refine ext_take (i := 2) (v := ?_) rfl (by kernel_rfl) (by kernel_rfl) (by kernel_rfl) (fun _ _ _ h => h) (by rfl) ?_ ?_
  rotate_left
  · intro W hW; have hW0 := Ext.trans E2ddd.out hW; clear hW; go_simp <;> with_reducible rfl
  try simp only [Act.put, List.setIfInBounds_toArray, List.set_cons_zero, List.set_cons_succ]
  refine ext_take (i := 3) (v := ?_) rfl (by kernel_rfl) (by kernel_rfl) (by kernel_rfl) (fun _ _ _ h => h) (by rfl) ?_ ?_
  rotate_left
  · intro W hW; have hW0 := Ext.trans E2ddd.out hW; clear hW; go_simp <;> with_reducible rfl
  try simp only [Act.put, List.setIfInBounds_toArray, List.set_cons_zero, List.set_cons_succ]
  refine ext_take (i := 4) (v := ?_) rfl (by kernel_rfl) (by kernel_rfl) (by kernel_rfl) (fun _ _ _ h => h) (by rfl) ?_ ?_
  rotate_left
  · intro W hW; have hW0 := Ext.trans E2ddd.out hW; clear hW; go_simp <;> with_reducible rfl
  try simp only [Act.put, List.setIfInBounds_toArray, List.set_cons_zero, List.set_cons_succ]
  refine ext_take (i := 5) (v := ?_) rfl (by kernel_rfl) (by kernel_rfl) (by kernel_rfl) (fun _ _ _ h => h) (by rfl) ?_ ?_
  rotate_left
  · intro W hW; have hW0 := Ext.trans E2ddd.out hW; clear hW; go_simp <;> with_reducible rfl
  try simp only [Act.put, List.setIfInBounds_toArray, List.set_cons_zero, List.set_cons_succ]
  refine ext_take (i := 6) (v := ?_) rfl (by kernel_rfl) (by kernel_rfl) (by kernel_rfl) (fun _ _ _ h => h) (by rfl) ?_ ?_
  rotate_left
  · intro W hW; have hW0 := Ext.trans E2ddd.out hW; clear hW; go_simp <;> with_reducible rfl
  try simp only [Act.put, List.setIfInBounds_toArray, List.set_cons_zero, List.set_cons_succ]
  refine ext_take (i := 7) (v := ?_) rfl (by kernel_rfl) (by kernel_rfl) (by kernel_rfl) (fun _ _ _ h => h) (by rfl) ?_ ?_
  rotate_left
  · intro W hW; have hW0 := Ext.trans E2ddd.out hW; clear hW; go_simp <;> with_reducible rfl
  try simp only [Act.put, List.setIfInBounds_toArray, List.set_cons_zero, List.set_cons_succ]
  refine ext_take (i := 8) (v := ?_) rfl (by kernel_rfl) (by kernel_rfl) (by kernel_rfl) (fun _ _ _ h => h) (by rfl) ?_ ?_
  rotate_left
  · intro W hW; have hW0 := Ext.trans E2ddd.out hW; clear hW; go_simp <;> with_reducible rfl
  try simp only [Act.put, List.setIfInBounds_toArray, List.set_cons_zero, List.set_cons_succ]
  refine ext_call (i := 9) rfl (by kernel_rfl) (by rfl) (fun K' hK => ?_)
  go_simp
  (go_at_call 35; (with_reducible refine (CF.out _ E2ddd.out).mono ?_); rintro e w3 ⟨rfl, hx⟩; refine hK _ _ hx ?_; clear hK)
  have Ew3 := Lib.hid (Ext.trans E2ddd.out hx)
  clear hx
  try simp only [Act.put, List.setIfInBounds_toArray, List.set_cons_zero, List.set_cons_succ]
  refine ext_take (i := 10) (v := ?_) rfl (by kernel_rfl) (by kernel_rfl) (by kernel_rfl) (fun _ _ _ h => h) (by rfl) ?_ ?_
  rotate_left
  · intro W hW; have hW0 := Ext.trans Ew3.out hW; clear hW; go_simp <;> with_reducible rfl
  try simp only [Act.put, List.setIfInBounds_toArray, List.set_cons_zero, List.set_cons_succ]
  refine ext_take (i := 11) (v := ?_) rfl (by kernel_rfl) (by kernel_rfl) (by kernel_rfl) (fun _ _ _ h => h) (by rfl) ?_ ?_
  rotate_left
  · intro W hW; have hW0 := Ext.trans Ew3.out hW; clear hW; go_simp <;> with_reducible rfl
  try simp only [Act.put, List.setIfInBounds_toArray, List.set_cons_zero, List.set_cons_succ]
  refine wpAnyH_done (by kernel_rfl) ?_ _
  go_upto_region 9 with fail
  refine ext_begin (by kernel_rfl) ?_
  have Ew3d := Lib.hid (Ext.drewR Ew3.out)
  refine ext_take (i := 0) (v := ?_) rfl (by kernel_rfl) (by kernel_rfl) (by kernel_rfl) (fun _ _ _ h => h) (by rfl) ?_ ?_
  rotate_left
  · intro W hW; have hW0 := Ext.trans Ew3d.out hW; clear hW; go_simp <;> with_reducible rfl
  try simp only [Act.put, List.setIfInBounds_toArray, List.set_cons_zero, List.set_cons_succ]
  refine ext_take (i := 1) (v := ?_) rfl (by kernel_rfl) (by kernel_rfl) (by kernel_rfl) (fun _ _ _ h => h) (by rfl) ?_ ?_
  rotate_left
  · intro W hW; have hW0 := Ext.trans Ew3d.out hW; clear hW; go_simp <;> with_reducible rfl
  try simp only [Act.put, List.setIfInBounds_toArray, List.set_cons_zero, List.set_cons_succ]
  refine ext_take (i := 2) (v := ?_) rfl (by kernel_rfl) (by kernel_rfl) (by kernel_rfl) (fun _ _ _ h => h) (by rfl) ?_ ?_
  rotate_left
  · intro W hW; have hW0 := Ext.trans Ew3d.out hW; clear hW; go_simp <;> with_reducible rfl
  try simp only [Act.put, List.setIfInBounds_toArray, List.set_cons_zero, List.set_cons_succ]
  refine ext_take (i := 3) (v := ?_) rfl (by kernel_rfl) (by kernel_rfl) (by kernel_rfl) (fun _ _ _ h => h) (by rfl) ?_ ?_
  rotate_left
  · intro W hW; have hW0 := Ext.trans Ew3d.out hW; clear hW; go_simp <;> with_reducible rfl
  try simp only [Act.put, List.setIfInBounds_toArray, List.set_cons_zero, List.set_cons_succ]
  refine ext_take (i := 4) (v := ?_) rfl (by kernel_rfl) (by kernel_rfl) (by kernel_rfl) (fun _ _ _ h => h) (by rfl) ?_ ?_
  rotate_left
  · intro W hW; have hW0 := Ext.trans Ew3d.out hW; clear hW; go_simp <;> with_reducible rfl
  try simp only [Act.put, List.setIfInBounds_toArray, List.set_cons_zero, List.set_cons_succ]
  refine ext_take (i := 5) (v := ?_) rfl (by kernel_rfl) (by kernel_rfl) (by kernel_rfl) (fun _ _ _ h => h) (by rfl) ?_ ?_
  rotate_left
  · intro W hW; have hW0 := Ext.trans Ew3d.out hW; clear hW; go_simp <;> with_reducible rfl
  try simp only [Act.put, List.setIfInBounds_toArray, List.set_cons_zero, List.set_cons_succ]
  refine ext_call (i := 6) rfl (by kernel_rfl) (by rfl) (fun K' hK => ?_)
  go_simp
  (go_at_call 34; (with_reducible refine (CC.out _).mono ?_); rintro e w4 ⟨rfl, hx⟩; refine hK _ _ hx ?_; clear hK)
  have Ew4 := Lib.hid (Ext.trans Ew3d.out hx)
  clear hx
  try simp only [Act.put, List.setIfInBounds_toArray, List.set_cons_zero, List.set_cons_succ]
  refine ext_take (i := 7) (v := ?_) rfl (by kernel_rfl) (by kernel_rfl) (by kernel_rfl) (fun _ _ _ h => h) (by rfl) ?_ ?_
  rotate_left
  · intro W hW; have hW0 := Ext.trans Ew4.out hW; clear hW; go_simp <;> with_reducible rfl
  try simp only [Act.put, List.setIfInBounds_toArray, List.set_cons_zero, List.set_cons_succ]
  refine ext_take (i := 8) (v := ?_) rfl (by kernel_rfl) (by kernel_rfl) (by kernel_rfl) (fun _ _ _ h => h) (by rfl) ?_ ?_
  rotate_left
  · intro W hW; have hW0 := Ext.trans Ew4.out hW; clear hW; go_simp <;> with_reducible rfl
  try simp only [Act.put, List.setIfInBounds_toArray, List.set_cons_zero, List.set_cons_succ]
  refine wpAnyH_done (by kernel_rfl) ?_ _
  have EX := Lib.hid Ew4.out
  clear y0 y1 y2 y3 y4 z0_0 z0_1 z1_0 z1_1
  go_wp2_with fail
  try go_ret
  exact hD.out _ _ ⟨rfl, Ext.trans X0.out EX.out⟩

set_option maxRecDepth 8000 in
set_option maxHeartbeats 16000000 in
theorem racc_ok (x : Nat) (n kep : Int) (kns : List Int) (pr pn ar an : Int) (has : Bool) (vep : Int) (vns : List Int) (ep br bn : Int) (A : Option Addr) (cap : Nat) (l : List Int) (veto : Bool) (w : World) (H : XAt w x ⟨n, kep, kns, pr, pn, ar, an, has, vep, vns⟩) (hl : l.length ≤ 1000000) (hs : Sl i64 w A l) (hb1 : -9223372036854775808 ≤ ep ∧ ep ≤ 9223372036854775807) (hk0 : 0 ≤ kep ∧ kep ≤ 1073741824) (hkl : kns.length ≤ 1000000) (hm : mayBal br bn = true) (hc : mayChainB ep l = true) (h3 : ep = kep + 1) (h5 : nextB kep ep kns l n = true) (h6 : ¬ cmpBal br bn pr pn < 0) (hv9 : veto = false) :
    Calls Try.prog 40 #[.pointer (some ⟨x, 0, none⟩), .agg #[.int .i64 ep, .slice A l.length cap], .agg #[.int .i64 br, .int .i64 bn], .bool veto] w fun e w' => e = .returned (.int .i64 0) ∧ XAt w' x ⟨n, kep, kns, br, bn, br, bn, true, ep, l⟩ ∧ Frm (oneA x) w w' := by
  subst hv9
  refine hide_post fun D hD => ?_
  have hlt := H.lt
  have HX := Lib.hid H
  obtain ⟨kA, kc, vA, vc, kB, hk, hv⟩ := H
  simp only at hk hv
  obtain ⟨N, hN⟩ : ∃ N, N = l.length := ⟨_, rfl⟩
  rw [← hN]
  obtain ⟨w0, hw0⟩ : ∃ w0, w0 = ((w.alloc (.cells #[.int .i64 ep, .slice A N cap] 26)).alloc (.cells #[.int .i64 br, .int .i64 bn] 23)) := ⟨_, rfl⟩
  have hb0 : Ext w w0 := by rw [hw0]; exact Ext.trans (Ext.trans (Ext.refl _) (ext_al _ _)) (ext_al _ _)
  have hz0 : w0.heap.size = w.heap.size + 2 := by rw [hw0]; simp
  have KB0 : Hid (Blk w0 (w.heap.size) 26 #[.int .i64 ep, .slice A N cap]) := by show Blk _ _ _ _; rw [hw0]; exact ((Blk.new' _ _ _ _ (by simp)).alloc _)
  have z0_0 : ∀ V, Ext w0 V → V.cell? ⟨w.heap.size, 0, none⟩ = some (.int .i64 ep) := fun V h => (KB0.out.stay h).cell 0
  have z0_1 : ∀ V, Ext w0 V → V.cell? ⟨w.heap.size, 1, none⟩ = some (.slice A N cap) := fun V h => (KB0.out.stay h).cell 1
  have KB1 : Hid (Blk w0 (w.heap.size + 1) 23 #[.int .i64 br, .int .i64 bn]) := by show Blk _ _ _ _; rw [hw0]; exact (Blk.new' _ _ _ _ (by simp))
  have z1_0 : ∀ V, Ext w0 V → V.cell? ⟨w.heap.size + 1, 0, none⟩ = some (.int .i64 br) := fun V h => (KB1.out.stay h).cell 0
  have z1_1 : ∀ V, Ext w0 V → V.cell? ⟨w.heap.size + 1, 1, none⟩ = some (.int .i64 bn) := fun V h => (KB1.out.stay h).cell 1
  have y0 : ∀ V, Ext w0 V → V.cell? ⟨x, 0, none⟩ = some (.int .i64 n) := fun V h => ((kB.stay hb0).stay h).cell 0
  have y1 : ∀ V, Ext w0 V → V.cell? ⟨x, 1, none⟩ = some (.int .i64 kep) := fun V h => ((kB.stay hb0).stay h).cell 1
  have y2 : ∀ V, Ext w0 V → V.cell? ⟨x, 2, none⟩ = some (.slice kA kns.length kc) := fun V h => ((kB.stay hb0).stay h).cell 2
  have y3 : ∀ V, Ext w0 V → V.cell? ⟨x, 3, none⟩ = some (.int .i64 pr) := fun V h => ((kB.stay hb0).stay h).cell 3
  have y4 : ∀ V, Ext w0 V → V.cell? ⟨x, 4, none⟩ = some (.int .i64 pn) := fun V h => ((kB.stay hb0).stay h).cell 4
  have HSL0 : Hid (∀ V, Ext w0 V → Sl i64 V A l) := fun V h => hs.stay (Ext.trans hb0 h)
  have HNN := Lib.hid hN
  have HL : Hid (l.length ≤ 1000000) := hl
  have KBW := Lib.hid kB
  have HK := Lib.hid hk
  have HV := Lib.hid hv
  have HW := Lib.hid hw0
  have X0 := Lib.hid hb0
  have HZ0 := Lib.hid hz0
  have HLT := Lib.hid hlt
  have CM : Hid (∀ V, Calls Try.prog 13 #[.agg #[.int .i64 br, .int .i64 bn]] V fun e w' => e = .returned (.bool true) ∧ Ext V w') := fun V => by rw [← hm]; exact refMayBal_any br bn V
  have CMC : Hid (∀ V, Ext w0 V → Calls Try.prog 14 #[.agg #[.int .i64 ep, .slice A N cap]] V fun e w' => e = .returned (.bool true) ∧ Ext V w') := fun V h => by rw [← hc, hN]; exact refMayChain_any ep A cap l V (by omega) (hs.stay (Ext.trans hb0 h))
  have hle : ¬ ep ≤ kep := by omega
  have hsub : IntKind.i64.wrap (ep - 1) = kep := by rw [IntWalk.i64_in _ (by omega)]; omega
  have hne : (kep != kep) = false := by simp
  have CF : Hid (∀ V, Ext w0 V → Calls Try.prog 35 #[.agg #[.int .i64 kep, .slice kA kns.length kc], .agg #[.int .i64 ep, .slice A N cap], .int .i64 n] V fun e w' => e = .returned (.bool true) ∧ Ext V w') := fun V h => by rw [← h5, hN]; exact follows_any kep ep n kA A kc cap kns l V (by omega) (by omega) (hk.sl.stay (Ext.trans hb0 h)) (hs.stay (Ext.trans hb0 h))
  have CC : Hid (∀ V, Calls Try.prog 34 #[.agg #[.int .i64 br, .int .i64 bn], .agg #[.int .i64 pr, .int .i64 pn]] V fun e w' => e = .returned (.int .i64 (cmpBal br bn pr pn)) ∧ Ext V w') := fun V => refCmp_any br bn pr pn V
  clear hb0 hw0 hz0 hk hv kB hs hl hlt hN hm hc h5
  clear hkl
  generalize cmpBal br bn pr pn = cm at *
  replace h3 := Lib.hid h3
  go_enter Try.func40, Try.ntmps40
  go_upto_region 3 with (first
    | (go_at_call 14; (with_reducible refine (CMC.out _ E1.out).mono ?_); rintro e w2 ⟨rfl, hx⟩; have E2 : Hid (Ext w0 w2) := Ext.trans E1.out hx; clear hx)
    | (go_at_call 13; rw [← HW.out]; (with_reducible refine (CM.out _).mono ?_); rintro e w1 ⟨rfl, hx⟩; have E1 : Hid (Ext w0 w1) := hx; have b0 := z0_0 w1 hx; have b1 := z0_1 w1 hx; clear hx))
  try clear b0
  try clear b1
  try clear E1
  refine ext_begin (by kernel_rfl) ?_
  have E2d := Lib.hid (Ext.drewR E2.out)
  refine ext_take (i := 0) (v := ?_) rfl (by kernel_rfl) (by kernel_rfl) (by kernel_rfl) (fun _ _ _ h => h) (by rfl) ?_ ?_
  rotate_left
  · intro W hW; have hW0 := Ext.trans E2d.out hW; clear hW; go_simp <;> with_reducible rfl
  try simp only [Act.put, List.setIfInBounds_toArray, List.set_cons_zero, List.set_cons_succ]
  refine ext_take (i := 1) (v := ?_) rfl (by kernel_rfl) (by kernel_rfl) (by kernel_rfl) (fun _ _ _ h => h) (by rfl) ?_ ?_
  rotate_left
  · intro W hW; have hW0 := Ext.trans E2d.out hW; clear hW; go_simp <;> with_reducible rfl
  try simp only [Act.put, List.setIfInBounds_toArray, List.set_cons_zero, List.set_cons_succ]
  refine ext_take (i := 2) (v := ?_) rfl (by kernel_rfl) (by kernel_rfl) (by kernel_rfl) (fun _ _ _ h => h) (by rfl) ?_ ?_
  rotate_left
  · intro W hW; have hW0 := Ext.trans E2d.out hW; clear hW; go_simp <;> with_reducible rfl
  try simp only [Act.put, List.setIfInBounds_toArray, List.set_cons_zero, List.set_cons_succ]
  refine ext_take (i := 3) (v := ?_) rfl (by kernel_rfl) (by kernel_rfl) (by kernel_rfl) (fun _ _ _ h => h) (by rfl) ?_ ?_
  rotate_left
  · intro W hW; have hW0 := Ext.trans E2d.out hW; clear hW; go_simp <;> with_reducible rfl
  try simp only [Act.put, List.setIfInBounds_toArray, List.set_cons_zero, List.set_cons_succ]
  refine ext_take (i := 4) (v := ?_) rfl (by kernel_rfl) (by kernel_rfl) (by kernel_rfl) (fun _ _ _ h => h) (by rfl) ?_ ?_
  rotate_left
  · intro W hW; have hW0 := Ext.trans E2d.out hW; clear hW; go_simp <;> with_reducible rfl
  try simp only [Act.put, List.setIfInBounds_toArray, List.set_cons_zero, List.set_cons_succ]
  refine ext_take (i := 5) (v := ?_) rfl (by kernel_rfl) (by kernel_rfl) (by kernel_rfl) (fun _ _ _ h => h) (by rfl) ?_ ?_
  rotate_left
  · intro W hW; have hW0 := Ext.trans E2d.out hW; clear hW; go_simp <;> with_reducible rfl
  try simp only [Act.put, List.setIfInBounds_toArray, List.set_cons_zero, List.set_cons_succ]
  refine ext_take (i := 6) (v := ?_) rfl (by kernel_rfl) (by kernel_rfl) (by kernel_rfl) (fun _ _ _ h => h) (by rfl) ?_ ?_
  rotate_left
  · intro W hW; have hW0 := Ext.trans E2d.out hW; clear hW; go_simp <;> with_reducible rfl
  try simp only [Act.put, List.setIfInBounds_toArray, List.set_cons_zero, List.set_cons_succ]
  refine ext_take (i := 7) (v := ?_) rfl (by kernel_rfl) (by kernel_rfl) (by kernel_rfl) (fun _ _ _ h => h) (by rfl) ?_ ?_
  rotate_left
  · intro W hW; have hW0 := Ext.trans E2d.out hW; clear hW; go_simp <;> with_reducible rfl
  try simp only [Act.put, List.setIfInBounds_toArray, List.set_cons_zero, List.set_cons_succ]
  refine ext_take (i := 8) (v := ?_) rfl (by kernel_rfl) (by kernel_rfl) (by kernel_rfl) (fun _ _ _ h => h) (by rfl) ?_ ?_
  rotate_left
  · intro W hW; have hW0 := Ext.trans E2d.out hW; clear hW; go_simp <;> with_reducible rfl
  try simp only [Act.put, List.setIfInBounds_toArray, List.set_cons_zero, List.set_cons_succ]
  refine wpAnyH_done (by kernel_rfl) ?_ _
  go_upto_region 5 with fail
  refine ext_begin (by kernel_rfl) ?_
  have E2dd := Lib.hid (Ext.drewR E2d.out)
  refine ext_take (i := 0) (v := ?_) rfl (by kernel_rfl) (by kernel_rfl) (by kernel_rfl) (fun _ _ _ h => h) (by rfl) ?_ ?_
  rotate_left
  · intro W hW; have hW0 := Ext.trans E2dd.out hW; clear hW; go_simp <;> with_reducible rfl
  try simp only [Act.put, List.setIfInBounds_toArray, List.set_cons_zero, List.set_cons_succ]
  refine ext_take (i := 1) (v := ?_) rfl (by kernel_rfl) (by kernel_rfl) (by kernel_rfl) (fun _ _ _ h => h) (by rfl) ?_ ?_
  rotate_left
  · intro W hW; have hW0 := Ext.trans E2dd.out hW; clear hW; go_simp <;> with_reducible rfl
  try simp only [Act.put, List.setIfInBounds_toArray, List.set_cons_zero, List.set_cons_succ]
  refine ext_take (i := 2) (v := ?_) rfl (by kernel_rfl) (by kernel_rfl) (by kernel_rfl) (fun _ _ _ h => h) (by rfl) ?_ ?_
  rotate_left
  · intro W hW; have hW0 := Ext.trans E2dd.out hW; clear hW; go_simp <;> with_reducible rfl
  try simp only [Act.put, List.setIfInBounds_toArray, List.set_cons_zero, List.set_cons_succ]
  refine ext_take (i := 3) (v := ?_) rfl (by kernel_rfl) (by kernel_rfl) (by kernel_rfl) (fun _ _ _ h => h) (by rfl) ?_ ?_
  rotate_left
  · intro W hW; have hW0 := Ext.trans E2dd.out hW; clear hW; go_simp <;> with_reducible rfl
  try simp only [Act.put, List.setIfInBounds_toArray, List.set_cons_zero, List.set_cons_succ]
  refine ext_take (i := 4) (v := ?_) rfl (by kernel_rfl) (by kernel_rfl) (by kernel_rfl) (fun _ _ _ h => h) (by rfl) ?_ ?_
  rotate_left
  · intro W hW; have hW0 := Ext.trans E2dd.out hW; clear hW; go_simp <;> with_reducible rfl
  try simp only [Act.put, List.setIfInBounds_toArray, List.set_cons_zero, List.set_cons_succ]
  refine ext_take (i := 5) (v := ?_) rfl (by kernel_rfl) (by kernel_rfl) (by kernel_rfl) (fun _ _ _ h => h) (by rfl) ?_ ?_
  rotate_left
  · intro W hW; have hW0 := Ext.trans E2dd.out hW; clear hW; go_simp <;> with_reducible rfl
  try simp only [Act.put, List.setIfInBounds_toArray, List.set_cons_zero, List.set_cons_succ]
  refine ext_take (i := 6) (v := ?_) rfl (by kernel_rfl) (by kernel_rfl) (by kernel_rfl) (fun _ _ _ h => h) (by rfl) ?_ ?_
  rotate_left
  · intro W hW; have hW0 := Ext.trans E2dd.out hW; clear hW; go_simp <;> with_reducible rfl
  try simp only [Act.put, List.setIfInBounds_toArray, List.set_cons_zero, List.set_cons_succ]
  refine ext_take (i := 7) (v := ?_) rfl (by kernel_rfl) (by kernel_rfl) (by kernel_rfl) (fun _ _ _ h => h) (by rfl) ?_ ?_
  rotate_left
  · intro W hW; have hW0 := Ext.trans E2dd.out hW; clear hW; go_simp <;> with_reducible rfl
  try simp only [Act.put, List.setIfInBounds_toArray, List.set_cons_zero, List.set_cons_succ]
  refine ext_take (i := 8) (v := ?_) rfl (by kernel_rfl) (by kernel_rfl) (by kernel_rfl) (fun _ _ _ h => h) (by rfl) ?_ ?_
  rotate_left
  · intro W hW; have hW0 := Ext.trans E2dd.out hW; clear hW; go_simp <;> with_reducible rfl
  try simp only [Act.put, List.setIfInBounds_toArray, List.set_cons_zero, List.set_cons_succ]
  refine ext_take (i := 9) (v := ?_) rfl (by kernel_rfl) (by kernel_rfl) (by kernel_rfl) (fun _ _ _ h => h) (by rfl) ?_ ?_
  rotate_left
  · intro W hW; have hW0 := Ext.trans E2dd.out hW; clear hW; go_simp <;> with_reducible rfl
  try simp only [Act.put, List.setIfInBounds_toArray, List.set_cons_zero, List.set_cons_succ]
  refine wpAnyH_done (by kernel_rfl) ?_ _
  go_upto_region 7 with fail
  refine ext_begin (by kernel_rfl) ?_
  have E2ddd := Lib.hid (Ext.drewR E2dd.out)
  refine ext_take (i := 0) (v := ?_) rfl (by kernel_rfl) (by kernel_rfl) (by kernel_rfl) (fun _ _ _ h => h) (by rfl) ?_ ?_
  rotate_left
  · intro W hW; have hW0 := Ext.trans E2ddd.out hW; clear hW; go_simp <;> with_reducible rfl
  try simp only [Act.put, List.setIfInBounds_toArray, List.set_cons_zero, List.set_cons_succ]
  refine ext_take (i := 1) (v := ?_) rfl (by kernel_rfl) (by kernel_rfl) (by kernel_rfl) (fun _ _ _ h => h) (by rfl) ?_ ?_
  rotate_left
  · intro W hW; have hW0 := Ext.trans E2ddd.out hW; clear hW; go_simp <;> with_reducible rfl
  try simp only [Act.put, List.setIfInBounds_toArray, List.set_cons_zero, List.set_cons_succ]
  refine ext_take (i := 2) (v := ?_) rfl (by kernel_rfl) (by kernel_rfl) (by kernel_rfl) (fun _ _ _ h => h) (by rfl) ?_ ?_
  rotate_left
  · intro W hW; have hW0 := Ext.trans E2ddd.out hW; clear hW; go_simp <;> with_reducible rfl
  try simp only [Act.put, List.setIfInBounds_toArray, List.set_cons_zero, List.set_cons_succ]
  refine ext_take (i := 3) (v := ?_) rfl (by kernel_rfl) (by kernel_rfl) (by kernel_rfl) (fun _ _ _ h => h) (by rfl) ?_ ?_
  rotate_left
  · intro W hW; have hW0 := Ext.trans E2ddd.out hW; clear hW; go_simp <;> with_reducible rfl
  try simp only [Act.put, List.setIfInBounds_toArray, List.set_cons_zero, List.set_cons_succ]
  refine ext_take (i := 4) (v := ?_) rfl (by kernel_rfl) (by kernel_rfl) (by kernel_rfl) (fun _ _ _ h => h) (by rfl) ?_ ?_
  rotate_left
  · intro W hW; have hW0 := Ext.trans E2ddd.out hW; clear hW; go_simp <;> with_reducible rfl
  try simp only [Act.put, List.setIfInBounds_toArray, List.set_cons_zero, List.set_cons_succ]
  refine ext_take (i := 5) (v := ?_) rfl (by kernel_rfl) (by kernel_rfl) (by kernel_rfl) (fun _ _ _ h => h) (by rfl) ?_ ?_
  rotate_left
  · intro W hW; have hW0 := Ext.trans E2ddd.out hW; clear hW; go_simp <;> with_reducible rfl
  try simp only [Act.put, List.setIfInBounds_toArray, List.set_cons_zero, List.set_cons_succ]
  refine ext_take (i := 6) (v := ?_) rfl (by kernel_rfl) (by kernel_rfl) (by kernel_rfl) (fun _ _ _ h => h) (by rfl) ?_ ?_
  rotate_left
  · intro W hW; have hW0 := Ext.trans E2ddd.out hW; clear hW; go_simp <;> with_reducible rfl
  try simp only [Act.put, List.setIfInBounds_toArray, List.set_cons_zero, List.set_cons_succ]
  refine ext_take (i := 7) (v := ?_) rfl (by kernel_rfl) (by kernel_rfl) (by kernel_rfl) (fun _ _ _ h => h) (by rfl) ?_ ?_
  rotate_left
  · intro W hW; have hW0 := Ext.trans E2ddd.out hW; clear hW; go_simp <;> with_reducible rfl
  try simp only [Act.put, List.setIfInBounds_toArray, List.set_cons_zero, List.set_cons_succ]
  refine ext_take (i := 8) (v := ?_) rfl (by kernel_rfl) (by kernel_rfl) (by kernel_rfl) (fun _ _ _ h => h) (by rfl) ?_ ?_
  rotate_left
  · intro W hW; have hW0 := Ext.trans E2ddd.out hW; clear hW; go_simp <;> with_reducible rfl
  try simp only [Act.put, List.setIfInBounds_toArray, List.set_cons_zero, List.set_cons_succ]
  refine ext_call (i := 9) rfl (by kernel_rfl) (by rfl) (fun K' hK => ?_)
  go_simp
  (go_at_call 35; (with_reducible refine (CF.out _ E2ddd.out).mono ?_); rintro e w3 ⟨rfl, hx⟩; refine hK _ _ hx ?_; clear hK)
  have Ew3 := Lib.hid (Ext.trans E2ddd.out hx)
  clear hx
  try simp only [Act.put, List.setIfInBounds_toArray, List.set_cons_zero, List.set_cons_succ]
  refine ext_take (i := 10) (v := ?_) rfl (by kernel_rfl) (by kernel_rfl) (by kernel_rfl) (fun _ _ _ h => h) (by rfl) ?_ ?_
  rotate_left
  · intro W hW; have hW0 := Ext.trans Ew3.out hW; clear hW; go_simp <;> with_reducible rfl
  try simp only [Act.put, List.setIfInBounds_toArray, List.set_cons_zero, List.set_cons_succ]
  refine ext_take (i := 11) (v := ?_) rfl (by kernel_rfl) (by kernel_rfl) (by kernel_rfl) (fun _ _ _ h => h) (by rfl) ?_ ?_
  rotate_left
  · intro W hW; have hW0 := Ext.trans Ew3.out hW; clear hW; go_simp <;> with_reducible rfl
  try simp only [Act.put, List.setIfInBounds_toArray, List.set_cons_zero, List.set_cons_succ]
  refine wpAnyH_done (by kernel_rfl) ?_ _
  go_upto_region 9 with fail
  refine ext_begin (by kernel_rfl) ?_
  have Ew3d := Lib.hid (Ext.drewR Ew3.out)
  refine ext_take (i := 0) (v := ?_) rfl (by kernel_rfl) (by kernel_rfl) (by kernel_rfl) (fun _ _ _ h => h) (by rfl) ?_ ?_
  rotate_left
  · intro W hW; have hW0 := Ext.trans Ew3d.out hW; clear hW; go_simp <;> with_reducible rfl
  try simp only [Act.put, List.setIfInBounds_toArray, List.set_cons_zero, List.set_cons_succ]
  refine ext_take (i := 1) (v := ?_) rfl (by kernel_rfl) (by kernel_rfl) (by kernel_rfl) (fun _ _ _ h => h) (by rfl) ?_ ?_
  rotate_left
  · intro W hW; have hW0 := Ext.trans Ew3d.out hW; clear hW; go_simp <;> with_reducible rfl
  try simp only [Act.put, List.setIfInBounds_toArray, List.set_cons_zero, List.set_cons_succ]
  refine ext_take (i := 2) (v := ?_) rfl (by kernel_rfl) (by kernel_rfl) (by kernel_rfl) (fun _ _ _ h => h) (by rfl) ?_ ?_
  rotate_left
  · intro W hW; have hW0 := Ext.trans Ew3d.out hW; clear hW; go_simp <;> with_reducible rfl
  try simp only [Act.put, List.setIfInBounds_toArray, List.set_cons_zero, List.set_cons_succ]
  refine ext_take (i := 3) (v := ?_) rfl (by kernel_rfl) (by kernel_rfl) (by kernel_rfl) (fun _ _ _ h => h) (by rfl) ?_ ?_
  rotate_left
  · intro W hW; have hW0 := Ext.trans Ew3d.out hW; clear hW; go_simp <;> with_reducible rfl
  try simp only [Act.put, List.setIfInBounds_toArray, List.set_cons_zero, List.set_cons_succ]
  refine ext_take (i := 4) (v := ?_) rfl (by kernel_rfl) (by kernel_rfl) (by kernel_rfl) (fun _ _ _ h => h) (by rfl) ?_ ?_
  rotate_left
  · intro W hW; have hW0 := Ext.trans Ew3d.out hW; clear hW; go_simp <;> with_reducible rfl
  try simp only [Act.put, List.setIfInBounds_toArray, List.set_cons_zero, List.set_cons_succ]
  refine ext_take (i := 5) (v := ?_) rfl (by kernel_rfl) (by kernel_rfl) (by kernel_rfl) (fun _ _ _ h => h) (by rfl) ?_ ?_
  rotate_left
  · intro W hW; have hW0 := Ext.trans Ew3d.out hW; clear hW; go_simp <;> with_reducible rfl
  try simp only [Act.put, List.setIfInBounds_toArray, List.set_cons_zero, List.set_cons_succ]
  refine ext_call (i := 6) rfl (by kernel_rfl) (by rfl) (fun K' hK => ?_)
  go_simp
  (go_at_call 34; (with_reducible refine (CC.out _).mono ?_); rintro e w4 ⟨rfl, hx⟩; refine hK _ _ hx ?_; clear hK)
  have Ew4 := Lib.hid (Ext.trans Ew3d.out hx)
  clear hx
  try simp only [Act.put, List.setIfInBounds_toArray, List.set_cons_zero, List.set_cons_succ]
  refine ext_take (i := 7) (v := ?_) rfl (by kernel_rfl) (by kernel_rfl) (by kernel_rfl) (fun _ _ _ h => h) (by rfl) ?_ ?_
  rotate_left
  · intro W hW; have hW0 := Ext.trans Ew4.out hW; clear hW; go_simp <;> with_reducible rfl
  try simp only [Act.put, List.setIfInBounds_toArray, List.set_cons_zero, List.set_cons_succ]
  refine ext_take (i := 8) (v := ?_) rfl (by kernel_rfl) (by kernel_rfl) (by kernel_rfl) (fun _ _ _ h => h) (by rfl) ?_ ?_
  rotate_left
  · intro W hW; have hW0 := Ext.trans Ew4.out hW; clear hW; go_simp <;> with_reducible rfl
  try simp only [Act.put, List.setIfInBounds_toArray, List.set_cons_zero, List.set_cons_succ]
  refine wpAnyH_done (by kernel_rfl) ?_ _
  have EX := Lib.hid Ew4.out
  clear Ew4
  go_upto_region 13 with fail
  obtain ⟨Wa, hWa⟩ : ∃ Wa, Wa = w4 := ⟨_, rfl⟩
  rw [← hWa] at EX ⊢
  clear hWa
  clear y0 y1 y2 y3 y4 z0_0 z0_1 z1_0 z1_1
  have XAa := Lib.hid (HX.out.stay (Ext.trans X0.out EX.out))
  have KXa := Lib.hid ((KBW.out.stay X0.out).stay EX.out)
  have HSL : Hid (∀ V, Ext Wa V → Sl i64 V A l) := fun V h => HSL0.out V (Ext.trans EX.out h)
  have HZa : Hid (w.heap.size + 2 ≤ Wa.heap.size) := by (show _ ≤ _); have h1 := EX.out.size; have h2 := HZ0.out; omega
  have z0_0 : ∀ V, Frm (fun k => k = x ∨ Wa.heap.size ≤ k) Wa V → V.cell? ⟨w.heap.size, 0, none⟩ = some (.int .i64 ep) := fun V h => ((KB0.out.stay EX.out).frm h (fun e => by have h1 := HLT.out; have h2 := HZa.out; rcases e with e | e <;> omega)).cell 0
  have z0_1 : ∀ V, Frm (fun k => k = x ∨ Wa.heap.size ≤ k) Wa V → V.cell? ⟨w.heap.size, 1, none⟩ = some (.slice A N cap) := fun V h => ((KB0.out.stay EX.out).frm h (fun e => by have h1 := HLT.out; have h2 := HZa.out; rcases e with e | e <;> omega)).cell 1
  have z1_0 : ∀ V, Frm (fun k => k = x ∨ Wa.heap.size ≤ k) Wa V → V.cell? ⟨w.heap.size + 1, 0, none⟩ = some (.int .i64 br) := fun V h => ((KB1.out.stay EX.out).frm h (fun e => by have h1 := HLT.out; have h2 := HZa.out; rcases e with e | e <;> omega)).cell 0
  have z1_1 : ∀ V, Frm (fun k => k = x ∨ Wa.heap.size ≤ k) Wa V → V.cell? ⟨w.heap.size + 1, 1, none⟩ = some (.int .i64 bn) := fun V h => ((KB1.out.stay EX.out).frm h (fun e => by have h1 := HLT.out; have h2 := HZa.out; rcases e with e | e <;> omega)).cell 1
  have E0g : Hid (Frm (fun k => k = x ∨ Wa.heap.size ≤ k) Wa Wa.drew) := (Frm.refl _ _).drew
  refine rz_begin ((fun k => k = x ∨ Wa.heap.size ≤ k)) [] (by kernel_rfl) ?_
  refine rz_take [11, 12, 13] (i := 0) (v := ?_) rfl (by kernel_rfl) (by kernel_rfl) (by kernel_rfl) (by kernel_rfl) (by kernel_rfl) (by kernel_rfl) (fun _ _ _ h => h) (by rfl) ?_ ?_
  rotate_left
  · intro W hW; have hW0 := Frm.tr E0g.out hW; clear hW; go_simp <;> with_reducible rfl
  try simp only [Act.put, List.setIfInBounds_toArray, List.set_cons_zero, List.set_cons_succ]
  refine rz_take [10, 11, 12, 13] (i := 1) (v := ?_) rfl (by kernel_rfl) (by kernel_rfl) (by kernel_rfl) (by kernel_rfl) (by kernel_rfl) (by kernel_rfl) (fun _ _ _ h => h) (by rfl) ?_ ?_
  rotate_left
  · intro W hW; have hW0 := Frm.tr E0g.out hW; clear hW; go_simp <;> with_reducible rfl
  try simp only [Act.put, List.setIfInBounds_toArray, List.set_cons_zero, List.set_cons_succ]
  refine rz_take [10, 11, 12, 13] (i := 2) (v := ?_) rfl (by kernel_rfl) (by kernel_rfl) (by kernel_rfl) (by kernel_rfl) (by kernel_rfl) (by kernel_rfl) (fun _ _ _ h => h) (by rfl) ?_ ?_
  rotate_left
  · intro W hW; have hW0 := Frm.tr E0g.out hW; clear hW; go_simp <;> with_reducible rfl
  try simp only [Act.put, List.setIfInBounds_toArray, List.set_cons_zero, List.set_cons_succ]
  refine rz_take [4, 9, 10, 11, 12, 13] (i := 3) (v := ?_) rfl (by kernel_rfl) (by kernel_rfl) (by kernel_rfl) (by kernel_rfl) (by kernel_rfl) (by kernel_rfl) (fun _ _ _ h => h) (by rfl) ?_ ?_
  rotate_left
  · intro W hW; have hW0 := Frm.tr E0g.out hW; clear hW; go_simp <;> with_reducible rfl
  try simp only [Act.put, List.setIfInBounds_toArray, List.set_cons_zero, List.set_cons_succ]
  refine rz_take [9, 10, 11, 12, 13] (i := 4) (v := ?_) rfl (by kernel_rfl) (by kernel_rfl) (by kernel_rfl) (by kernel_rfl) (by kernel_rfl) (by kernel_rfl) (fun _ _ _ h => h) (by rfl) ?_ ?_
  rotate_left
  · intro W hW; have hW0 := Frm.tr E0g.out hW; clear hW; go_simp <;> with_reducible rfl
  try simp only [Act.put, List.setIfInBounds_toArray, List.set_cons_zero, List.set_cons_succ]
  refine rz_take [7, 8, 9, 10, 11, 12, 13] (i := 6) (v := ?_) rfl (by kernel_rfl) (by kernel_rfl) (by kernel_rfl) (by kernel_rfl) (by kernel_rfl) (by kernel_rfl) (fun _ _ _ h => h) (by rfl) ?_ ?_
  rotate_left
  · intro W hW; have hW0 := Frm.tr E0g.out hW; clear hW; go_simp <;> with_reducible rfl
  try simp only [Act.put, List.setIfInBounds_toArray, List.set_cons_zero, List.set_cons_succ]
  refine rz_take [8, 9, 10, 11, 12, 13] (i := 7) (v := ?_) rfl (by kernel_rfl) (by kernel_rfl) (by kernel_rfl) (by kernel_rfl) (by kernel_rfl) (by kernel_rfl) (fun _ _ _ h => h) (by rfl) ?_ ?_
  rotate_left
  · intro W hW; have hW0 := Frm.tr E0g.out hW; clear hW; go_simp <;> with_reducible rfl
  try simp only [Act.put, List.setIfInBounds_toArray, List.set_cons_zero, List.set_cons_succ]
  refine rz_call (i := 5) rfl (by kernel_rfl) (by rfl) (fun K hK => ?_)
  go_simp
  refine hK _ _ (Frm.of_alloc _ _ _) ?_; clear hK K
  obtain ⟨W1, hW1⟩ : ∃ W1, W1 = (Wa.alloc (.cells #[] 3)).drew := ⟨_, rfl⟩
  have O1 : Hid (W1.ownsRow Wa.heap.size 3 1 (.slice (some ⟨Wa.heap.size, 0, none⟩) 0 0) 0 []) := by (show World.ownsRow _ _ _ _ _ _ _); rw [hW1]; exact World.ownsRow_made (base := Wa.heap.size) (e := 3) (size := 1) Wa.drew #[] 0 (Nat.le_refl _) (Nat.zero_le _) rfl
  have X1 : Hid (Ext Wa.drew W1) := by (show Ext _ _); rw [hW1]; exact Ext.alloc Wa.drew _
  have E1x : Hid (Frm (fun k => k = x ∨ Wa.heap.size ≤ k) Wa W1) := Frm.tr E0g.out (Frm.of_below X1.out _)
  have XA1 : Hid (Ext Wa W1) := Ext.trans (Ext.drewR (Ext.refl _)) X1.out
  try rw [← hW1]
  clear hW1
  try simp only [Act.put, List.setIfInBounds_toArray, List.set_cons_zero, List.set_cons_succ]
  refine rz_call (i := 8) rfl (by kernel_rfl) (by rfl) (fun K hK => ?_)
  refine wp_append_list (.tmp 65) (.tmp 67) 24 rfl Wa.heap.size 3 (.int .i64 0) 8 Try.underlying24 info_int rfl (by decide) (.slice (some ⟨Wa.heap.size, 0, none⟩) 0 0) 0 [] rfl O1.out i64 A l N cap HNN.out rfl (HSL.out _ XA1.out) (fun _ => rfl) (by have := HL.out; omega) XA1.out.size ?_
  intro v2 W2 oo gg bb
  rw [Nat.zero_add, ← HNN.out] at oo
  obtain ⟨A2, c2, hv2⟩ := own_shape oo
  subst hv2
  refine hK _ _ (Frm.of_grown gg (fun k hk => Or.inr (by have e2 := Option.some.inj (show some k = some Wa.heap.size from hk); omega))) ?_; clear hK K
  have IN2 : Hid (In W2 A2 c2 l) := by
    have h7 := oo
    rw [List.nil_append, HNN.out] at h7
    obtain ⟨A5, c5, e5, h8⟩ := In.own h7
    injection e5 with e6 e7 e8
    subst e6 e8
    exact h8
  have E2x : Hid (Frm (fun k => k = x ∨ Wa.heap.size ≤ k) Wa W2) := Frm.tr E1x.out (Frm.of_grown gg (fun k hk => Or.inr (by have e2 := Option.some.inj (show some k = some Wa.heap.size from hk); omega)))
  have X2 : Hid (Ext Wa W2) := XA1.out.grown gg XA1.out.size (fun k hk => by have e2 := Option.some.inj (show some Wa.heap.size = some k from hk); omega)
  have KX2 := Lib.hid (KXa.out.stay X2.out)
  clear oo gg bb
  try simp only [Act.put, List.setIfInBounds_toArray, List.set_cons_zero, List.set_cons_succ]
  refine rz_take [10, 11, 12, 13] (i := 9) (v := ?_) rfl (by kernel_rfl) (by kernel_rfl) (by kernel_rfl) (by kernel_rfl) (by kernel_rfl) (by kernel_rfl) (fun _ _ _ h => h) (by rfl) ?_ ?_
  rotate_left
  · intro W hW; have hW0 := Frm.tr E2x.out hW; clear hW; go_simp <;> with_reducible rfl
  try simp only [Act.put, List.setIfInBounds_toArray, List.set_cons_zero, List.set_cons_succ]
  refine rz_take [11, 12, 13] (i := 10) (v := ?_) rfl (by kernel_rfl) (by kernel_rfl) (by kernel_rfl) (by kernel_rfl) (by kernel_rfl) (by kernel_rfl) (fun _ _ _ h => h) (by rfl) ?_ ?_
  rotate_left
  · intro W hW; have hW0 := Frm.tr E2x.out hW; clear hW; go_simp <;> with_reducible rfl
  try simp only [Act.put, List.setIfInBounds_toArray, List.set_cons_zero, List.set_cons_succ]
  refine rz_take [12, 13] (i := 11) (v := ?_) rfl (by kernel_rfl) (by kernel_rfl) (by kernel_rfl) (by kernel_rfl) (by kernel_rfl) (by kernel_rfl) (fun _ _ _ h => h) (by rfl) ?_ ?_
  rotate_left
  · intro W hW; have hW0 := Frm.tr E2x.out hW; clear hW; go_simp <;> with_reducible rfl
  try simp only [Act.put, List.setIfInBounds_toArray, List.set_cons_zero, List.set_cons_succ]
  refine rz_take [13] (i := 12) (v := ?_) rfl (by kernel_rfl) (by kernel_rfl) (by kernel_rfl) (by kernel_rfl) (by kernel_rfl) (by kernel_rfl) (fun _ _ _ h => h) (by rfl) ?_ ?_
  rotate_left
  · intro W hW; have hW0 := Frm.tr E2x.out hW; clear hW; go_simp <;> with_reducible rfl
  try simp only [Act.put, List.setIfInBounds_toArray, List.set_cons_zero, List.set_cons_succ]
  refine rz_call (i := 13) rfl (by kernel_rfl) (by rfl) (fun K hK => ?_)
  have q3 := KX2.out.frozen 3
  have r3 := KX2.out.cell 3
  have q4 := KX2.out.frozen 4
  have r4 := KX2.out.cell 4
  have q5 := KX2.out.frozen 5
  have r5 := KX2.out.cell 5
  have q6 := KX2.out.frozen 6
  have r6 := KX2.out.cell 6
  have q7 := KX2.out.frozen 7
  have r7 := KX2.out.cell 7
  have q8 := KX2.out.frozen 8
  have r8 := KX2.out.cell 8
  have q9 := KX2.out.frozen 9
  have r9 := KX2.out.cell 9
  simp [acells] at r3 r4 r5 r6 r7 r8 r9
  go_simp
  refine hK _ _ (Frm.tr (Frm.tr (Frm.tr (Frm.tr (Frm.tr (Frm.tr (Frm.tr (Frm.refl (fun k => k = x ∨ Wa.heap.size ≤ k) W2) (Frm.of_set _ _ _ (Or.inl rfl))) (Frm.of_set _ _ _ (Or.inl rfl))) (Frm.of_set _ _ _ (Or.inl rfl))) (Frm.of_set _ _ _ (Or.inl rfl))) (Frm.of_set _ _ _ (Or.inl rfl))) (Frm.of_set _ _ _ (Or.inl rfl))) (Frm.of_set _ _ _ (Or.inl rfl))) ?_; clear hK K q3 r3 q4 r4 q5 r5 q6 r6 q7 r7 q8 r8 q9 r9
  obtain ⟨W3, hW3⟩ : ∃ W3, W3 = (((((((W2.setCell ⟨x, 3, none⟩ (.int .i64 br)).setCell ⟨x, 4, none⟩ (.int .i64 bn)).setCell ⟨x, 5, none⟩ (.int .i64 br)).setCell ⟨x, 6, none⟩ (.int .i64 bn)).setCell ⟨x, 7, none⟩ (.bool true)).setCell ⟨x, 8, none⟩ (.int .i64 ep)).setCell ⟨x, 9, none⟩ (.slice A2 N c2)) := ⟨_, rfl⟩
  have KX3 : Hid (Blk W3 x 80 #[.int .i64 n, .int .i64 kep, .slice kA kns.length kc, .int .i64 br, .int .i64 bn, .int .i64 br, .int .i64 bn, .bool true, .int .i64 ep, .slice A2 N c2]) := by (show Blk _ _ _ _); rw [hW3]; exact (((((((KX2.out.set 3 (.int .i64 br)).set 4 (.int .i64 bn)).set 5 (.int .i64 br)).set 6 (.int .i64 bn)).set 7 (.bool true)).set 8 (.int .i64 ep)).set 9 (.slice A2 N c2))
  have F3 : Hid (Frm (oneA x) W2 W3) := by (show Frm _ _ _); rw [hW3]; exact Frm.tr (Frm.tr (Frm.tr (Frm.tr (Frm.tr (Frm.tr (Frm.tr (Frm.refl (oneA x) W2) (Frm.of_set _ _ _ rfl)) (Frm.of_set _ _ _ rfl)) (Frm.of_set _ _ _ rfl)) (Frm.of_set _ _ _ rfl)) (Frm.of_set _ _ _ rfl)) (Frm.of_set _ _ _ rfl)) (Frm.of_set _ _ _ rfl)
  try rw [← hW3]
  clear hW3
  try simp only [Act.put, List.setIfInBounds_toArray, List.set_cons_zero, List.set_cons_succ]
  refine rz_done (by kernel_rfl) ?_ _
  clear z0_0 z0_1 z1_0 z1_1
  go_wp2_with fail
  try go_ret
  have XA2 : XAt W2 x ⟨n, kep, kns, pr, pn, ar, an, has, vep, vns⟩ := XAa.out.stay X2.out
  refine hD.out _ _ ⟨rfl, ⟨kA, kc, A2, c2, by unfold acells; simp only []; rw [← HNN.out]; exact KX3.out, XA2.in_ ((HK.out.stay (Ext.trans X0.out EX.out)).stay X2.out) F3.out, XA2.in_ IN2.out F3.out⟩, Frm.tr (Frm.of_below (Ext.trans (Ext.trans X0.out EX.out) X2.out) _) F3.out⟩

set_option maxRecDepth 8000 in
set_option maxHeartbeats 16000000 in
theorem rlearn_1 (x : Nat) (n kep : Int) (kns : List Int) (pr pn ar an : Int) (has : Bool) (vep : Int) (vns : List Int) (ep : Int) (A : Option Addr) (cap : Nat) (l : List Int) (w : World) (H : XAt w x ⟨n, kep, kns, pr, pn, ar, an, has, vep, vns⟩) (hl : l.length ≤ 1000000) (hs : Sl i64 w A l) (hb1 : -9223372036854775808 ≤ ep ∧ ep ≤ 9223372036854775807) (hk0 : 0 ≤ kep ∧ kep ≤ 1073741824) (hkl : kns.length ≤ 1000000) (hc : mayChainB ep l = false) :
    Calls Try.prog 41 #[.pointer (some ⟨x, 0, none⟩), .agg #[.int .i64 ep, .slice A l.length cap]] w fun e w' => e = .returned (.int .i64 1) ∧ Ext w w' := by
  refine hide_post fun D hD => ?_
  have hlt := H.lt
  have HX := Lib.hid H
  obtain ⟨kA, kc, vA, vc, kB, hk, hv⟩ := H
  simp only at hk hv
  obtain ⟨N, hN⟩ : ∃ N, N = l.length := ⟨_, rfl⟩
  rw [← hN]
  obtain ⟨w0, hw0⟩ : ∃ w0, w0 = (w.alloc (.cells #[.int .i64 ep, .slice A N cap] 26)) := ⟨_, rfl⟩
  have hb0 : Ext w w0 := by rw [hw0]; exact Ext.trans (Ext.refl _) (ext_al _ _)
  have hz0 : w0.heap.size = w.heap.size + 1 := by rw [hw0]; simp
  have KB0 : Hid (Blk w0 (w.heap.size) 26 #[.int .i64 ep, .slice A N cap]) := by show Blk _ _ _ _; rw [hw0]; exact (Blk.new' _ _ _ _ (by simp))
  have z0_0 : ∀ V, Ext w0 V → V.cell? ⟨w.heap.size, 0, none⟩ = some (.int .i64 ep) := fun V h => (KB0.out.stay h).cell 0
  have z0_1 : ∀ V, Ext w0 V → V.cell? ⟨w.heap.size, 1, none⟩ = some (.slice A N cap) := fun V h => (KB0.out.stay h).cell 1
  have y0 : ∀ V, Ext w0 V → V.cell? ⟨x, 0, none⟩ = some (.int .i64 n) := fun V h => ((kB.stay hb0).stay h).cell 0
  have y1 : ∀ V, Ext w0 V → V.cell? ⟨x, 1, none⟩ = some (.int .i64 kep) := fun V h => ((kB.stay hb0).stay h).cell 1
  have y2 : ∀ V, Ext w0 V → V.cell? ⟨x, 2, none⟩ = some (.slice kA kns.length kc) := fun V h => ((kB.stay hb0).stay h).cell 2
  have y3 : ∀ V, Ext w0 V → V.cell? ⟨x, 3, none⟩ = some (.int .i64 pr) := fun V h => ((kB.stay hb0).stay h).cell 3
  have y4 : ∀ V, Ext w0 V → V.cell? ⟨x, 4, none⟩ = some (.int .i64 pn) := fun V h => ((kB.stay hb0).stay h).cell 4
  have HSL0 : Hid (∀ V, Ext w0 V → Sl i64 V A l) := fun V h => hs.stay (Ext.trans hb0 h)
  have HNN := Lib.hid hN
  have HL : Hid (l.length ≤ 1000000) := hl
  have KBW := Lib.hid kB
  have HK := Lib.hid hk
  have HV := Lib.hid hv
  have HW := Lib.hid hw0
  have X0 := Lib.hid hb0
  have HZ0 := Lib.hid hz0
  have HLT := Lib.hid hlt
  have CMC : Hid (∀ V, Ext w0 V → Calls Try.prog 14 #[.agg #[.int .i64 ep, .slice A N cap]] V fun e w' => e = .returned (.bool false) ∧ Ext V w') := fun V h => by rw [← hc, hN]; exact refMayChain_any ep A cap l V (by omega) (hs.stay (Ext.trans hb0 h))
  clear hb0 hw0 hz0 hk hv kB hs hl hlt hN hkl hc
  have E1 : Hid (Ext w0 w0) := Ext.refl _
  go_enter Try.func41, Try.ntmps41
  go_upto_region 1 with fail
  rw [← HW.out]
  refine ext_begin (by kernel_rfl) ?_
  have E1d := Lib.hid (Ext.drewR E1.out)
  refine ext_take (i := 0) (v := ?_) rfl (by kernel_rfl) (by kernel_rfl) (by kernel_rfl) (fun _ _ _ h => h) (by rfl) ?_ ?_
  rotate_left
  · intro W hW; have hW0 := Ext.trans E1d.out hW; clear hW; go_simp <;> with_reducible rfl
  try simp only [Act.put, List.setIfInBounds_toArray, List.set_cons_zero, List.set_cons_succ]
  refine ext_call (i := 1) rfl (by kernel_rfl) (by rfl) (fun K' hK => ?_)
  go_simp
  (go_at_call 14; (with_reducible refine (CMC.out _ E1d.out).mono ?_); rintro e w2 ⟨rfl, hx⟩; refine hK _ _ hx ?_; clear hK)
  have Ew2 := Lib.hid (Ext.trans E1d.out hx)
  clear hx
  try simp only [Act.put, List.setIfInBounds_toArray, List.set_cons_zero, List.set_cons_succ]
  refine ext_take (i := 2) (v := ?_) rfl (by kernel_rfl) (by kernel_rfl) (by kernel_rfl) (fun _ _ _ h => h) (by rfl) ?_ ?_
  rotate_left
  · intro W hW; have hW0 := Ext.trans Ew2.out hW; clear hW; go_simp <;> with_reducible rfl
  try simp only [Act.put, List.setIfInBounds_toArray, List.set_cons_zero, List.set_cons_succ]
  refine ext_take (i := 3) (v := ?_) rfl (by kernel_rfl) (by kernel_rfl) (by kernel_rfl) (fun _ _ _ h => h) (by rfl) ?_ ?_
  rotate_left
  · intro W hW; have hW0 := Ext.trans Ew2.out hW; clear hW; go_simp <;> with_reducible rfl
  try simp only [Act.put, List.setIfInBounds_toArray, List.set_cons_zero, List.set_cons_succ]
  refine ext_skip (i := 4) rfl (by kernel_rfl) (by kernel_rfl) (by kernel_rfl) (fun _ _ _ h => h) (by rfl) ?_
  try simp only [Act.put, List.setIfInBounds_toArray, List.set_cons_zero, List.set_cons_succ]
  refine ext_skip (i := 5) rfl (by kernel_rfl) (by kernel_rfl) (by kernel_rfl) (fun _ _ _ h => h) (by rfl) ?_
  try simp only [Act.put, List.setIfInBounds_toArray, List.set_cons_zero, List.set_cons_succ]
  refine ext_skip (i := 6) rfl (by kernel_rfl) (by kernel_rfl) (by kernel_rfl) (fun _ _ _ h => h) (by rfl) ?_
  try simp only [Act.put, List.setIfInBounds_toArray, List.set_cons_zero, List.set_cons_succ]
  refine ext_skip (i := 7) rfl (by kernel_rfl) (by kernel_rfl) (by kernel_rfl) (fun _ _ _ h => h) (by rfl) ?_
  try simp only [Act.put, List.setIfInBounds_toArray, List.set_cons_zero, List.set_cons_succ]
  refine ext_skip (i := 8) rfl (by kernel_rfl) (by kernel_rfl) (by kernel_rfl) (fun _ _ _ h => h) (by rfl) ?_
  try simp only [Act.put, List.setIfInBounds_toArray, List.set_cons_zero, List.set_cons_succ]
  refine ext_skip (i := 9) rfl (by kernel_rfl) (by kernel_rfl) (by kernel_rfl) (fun _ _ _ h => h) (by rfl) ?_
  try simp only [Act.put, List.setIfInBounds_toArray, List.set_cons_zero, List.set_cons_succ]
  refine ext_skip (i := 10) rfl (by kernel_rfl) (by kernel_rfl) (by kernel_rfl) (fun _ _ _ h => h) (by rfl) ?_
  try simp only [Act.put, List.setIfInBounds_toArray, List.set_cons_zero, List.set_cons_succ]
  refine ext_take (i := 11) (v := ?_) rfl (by kernel_rfl) (by kernel_rfl) (by kernel_rfl) (fun _ _ _ h => h) (by rfl) ?_ ?_
  rotate_left
  · intro W hW; have hW0 := Ext.trans Ew2.out hW; clear hW; go_simp <;> with_reducible rfl
  try simp only [Act.put, List.setIfInBounds_toArray, List.set_cons_zero, List.set_cons_succ]
  refine ext_take (i := 12) (v := ?_) rfl (by kernel_rfl) (by kernel_rfl) (by kernel_rfl) (fun _ _ _ h => h) (by rfl) ?_ ?_
  rotate_left
  · intro W hW; have hW0 := Ext.trans Ew2.out hW; clear hW; go_simp <;> with_reducible rfl
  try simp only [Act.put, List.setIfInBounds_toArray, List.set_cons_zero, List.set_cons_succ]
  refine wpAnyH_done (by kernel_rfl) ?_ _
  have EX := Lib.hid Ew2.out
  clear y0 y1 y2 y3 y4 z0_0 z0_1
  go_wp2_with fail
  try go_ret
  exact hD.out _ _ ⟨rfl, Ext.trans X0.out EX.out⟩

set_option maxRecDepth 8000 in
set_option maxHeartbeats 16000000 in
theorem rlearn_1b (x : Nat) (n kep : Int) (kns : List Int) (pr pn ar an : Int) (has : Bool) (vep : Int) (vns : List Int) (ep : Int) (A : Option Addr) (cap : Nat) (l : List Int) (w : World) (H : XAt w x ⟨n, kep, kns, pr, pn, ar, an, has, vep, vns⟩) (hl : l.length ≤ 1000000) (hs : Sl i64 w A l) (hb1 : -9223372036854775808 ≤ ep ∧ ep ≤ 9223372036854775807) (hk0 : 0 ≤ kep ∧ kep ≤ 1073741824) (hkl : kns.length ≤ 1000000) (hc : mayChainB ep l = true) (h5 : l.any (badB n) = true) :
    Calls Try.prog 41 #[.pointer (some ⟨x, 0, none⟩), .agg #[.int .i64 ep, .slice A l.length cap]] w fun e w' => e = .returned (.int .i64 1) ∧ Ext w w' := by
  refine hide_post fun D hD => ?_
  have hlt := H.lt
  have HX := Lib.hid H
  obtain ⟨kA, kc, vA, vc, kB, hk, hv⟩ := H
  simp only at hk hv
  obtain ⟨N, hN⟩ : ∃ N, N = l.length := ⟨_, rfl⟩
  rw [← hN]
  obtain ⟨w0, hw0⟩ : ∃ w0, w0 = (w.alloc (.cells #[.int .i64 ep, .slice A N cap] 26)) := ⟨_, rfl⟩
  have hb0 : Ext w w0 := by rw [hw0]; exact Ext.trans (Ext.refl _) (ext_al _ _)
  have hz0 : w0.heap.size = w.heap.size + 1 := by rw [hw0]; simp
  have KB0 : Hid (Blk w0 (w.heap.size) 26 #[.int .i64 ep, .slice A N cap]) := by show Blk _ _ _ _; rw [hw0]; exact (Blk.new' _ _ _ _ (by simp))
  have z0_0 : ∀ V, Ext w0 V → V.cell? ⟨w.heap.size, 0, none⟩ = some (.int .i64 ep) := fun V h => (KB0.out.stay h).cell 0
  have z0_1 : ∀ V, Ext w0 V → V.cell? ⟨w.heap.size, 1, none⟩ = some (.slice A N cap) := fun V h => (KB0.out.stay h).cell 1
  have y0 : ∀ V, Ext w0 V → V.cell? ⟨x, 0, none⟩ = some (.int .i64 n) := fun V h => ((kB.stay hb0).stay h).cell 0
  have y1 : ∀ V, Ext w0 V → V.cell? ⟨x, 1, none⟩ = some (.int .i64 kep) := fun V h => ((kB.stay hb0).stay h).cell 1
  have y2 : ∀ V, Ext w0 V → V.cell? ⟨x, 2, none⟩ = some (.slice kA kns.length kc) := fun V h => ((kB.stay hb0).stay h).cell 2
  have y3 : ∀ V, Ext w0 V → V.cell? ⟨x, 3, none⟩ = some (.int .i64 pr) := fun V h => ((kB.stay hb0).stay h).cell 3
  have y4 : ∀ V, Ext w0 V → V.cell? ⟨x, 4, none⟩ = some (.int .i64 pn) := fun V h => ((kB.stay hb0).stay h).cell 4
  have HSL0 : Hid (∀ V, Ext w0 V → Sl i64 V A l) := fun V h => hs.stay (Ext.trans hb0 h)
  have HNN := Lib.hid hN
  have HL : Hid (l.length ≤ 1000000) := hl
  have KBW := Lib.hid kB
  have HK := Lib.hid hk
  have HV := Lib.hid hv
  have HW := Lib.hid hw0
  have X0 := Lib.hid hb0
  have HZ0 := Lib.hid hz0
  have HLT := Lib.hid hlt
  have CMC : Hid (∀ V, Ext w0 V → Calls Try.prog 14 #[.agg #[.int .i64 ep, .slice A N cap]] V fun e w' => e = .returned (.bool true) ∧ Ext V w') := fun V h => by rw [← hc, hN]; exact refMayChain_any ep A cap l V (by omega) (hs.stay (Ext.trans hb0 h))
  have CB : Hid (∀ V, Ext w0 V → Calls Try.prog 69 #[.agg #[.int .i64 ep, .slice A N cap], .int .i64 n] V fun e w' => e = .returned (.bool false) ∧ Ext V w') := fun V h => by
    have h7 := belowRef_any ep n A cap l V (by omega) (hs.stay (Ext.trans hb0 h))
    rw [all_fits n (fun y hy => okNodes_mem l [] (by unfold mayChainB at hc; simp only [Bool.and_eq_true] at hc; exact hc.2) y hy), h5] at h7
    rw [hN]
    exact h7
  clear hb0 hw0 hz0 hk hv kB hs hl hlt hN hkl hc h5
  have E1 : Hid (Ext w0 w0) := Ext.refl _
  go_enter Try.func41, Try.ntmps41
  go_upto_region 1 with fail
  rw [← HW.out]
  refine ext_begin (by kernel_rfl) ?_
  have E1d := Lib.hid (Ext.drewR E1.out)
  refine ext_take (i := 0) (v := ?_) rfl (by kernel_rfl) (by kernel_rfl) (by kernel_rfl) (fun _ _ _ h => h) (by rfl) ?_ ?_
  rotate_left
  · intro W hW; have hW0 := Ext.trans E1d.out hW; clear hW; go_simp <;> with_reducible rfl
  try simp only [Act.put, List.setIfInBounds_toArray, List.set_cons_zero, List.set_cons_succ]
  refine ext_call (i := 1) rfl (by kernel_rfl) (by rfl) (fun K' hK => ?_)
  go_simp
  (go_at_call 14; (with_reducible refine (CMC.out _ E1d.out).mono ?_); rintro e w2 ⟨rfl, hx⟩; refine hK _ _ hx ?_; clear hK)
  have Ew2 := Lib.hid (Ext.trans E1d.out hx)
  clear hx
  try simp only [Act.put, List.setIfInBounds_toArray, List.set_cons_zero, List.set_cons_succ]
  refine ext_take (i := 2) (v := ?_) rfl (by kernel_rfl) (by kernel_rfl) (by kernel_rfl) (fun _ _ _ h => h) (by rfl) ?_ ?_
  rotate_left
  · intro W hW; have hW0 := Ext.trans Ew2.out hW; clear hW; go_simp <;> with_reducible rfl
  try simp only [Act.put, List.setIfInBounds_toArray, List.set_cons_zero, List.set_cons_succ]
  refine ext_take (i := 3) (v := ?_) rfl (by kernel_rfl) (by kernel_rfl) (by kernel_rfl) (fun _ _ _ h => h) (by rfl) ?_ ?_
  rotate_left
  · intro W hW; have hW0 := Ext.trans Ew2.out hW; clear hW; go_simp <;> with_reducible rfl
  try simp only [Act.put, List.setIfInBounds_toArray, List.set_cons_zero, List.set_cons_succ]
  refine ext_take (i := 4) (v := ?_) rfl (by kernel_rfl) (by kernel_rfl) (by kernel_rfl) (fun _ _ _ h => h) (by rfl) ?_ ?_
  rotate_left
  · intro W hW; have hW0 := Ext.trans Ew2.out hW; clear hW; go_simp <;> with_reducible rfl
  try simp only [Act.put, List.setIfInBounds_toArray, List.set_cons_zero, List.set_cons_succ]
  refine ext_take (i := 5) (v := ?_) rfl (by kernel_rfl) (by kernel_rfl) (by kernel_rfl) (fun _ _ _ h => h) (by rfl) ?_ ?_
  rotate_left
  · intro W hW; have hW0 := Ext.trans Ew2.out hW; clear hW; go_simp <;> with_reducible rfl
  try simp only [Act.put, List.setIfInBounds_toArray, List.set_cons_zero, List.set_cons_succ]
  refine ext_take (i := 6) (v := ?_) rfl (by kernel_rfl) (by kernel_rfl) (by kernel_rfl) (fun _ _ _ h => h) (by rfl) ?_ ?_
  rotate_left
  · intro W hW; have hW0 := Ext.trans Ew2.out hW; clear hW; go_simp <;> with_reducible rfl
  try simp only [Act.put, List.setIfInBounds_toArray, List.set_cons_zero, List.set_cons_succ]
  refine ext_take (i := 7) (v := ?_) rfl (by kernel_rfl) (by kernel_rfl) (by kernel_rfl) (fun _ _ _ h => h) (by rfl) ?_ ?_
  rotate_left
  · intro W hW; have hW0 := Ext.trans Ew2.out hW; clear hW; go_simp <;> with_reducible rfl
  try simp only [Act.put, List.setIfInBounds_toArray, List.set_cons_zero, List.set_cons_succ]
  refine ext_take (i := 8) (v := ?_) rfl (by kernel_rfl) (by kernel_rfl) (by kernel_rfl) (fun _ _ _ h => h) (by rfl) ?_ ?_
  rotate_left
  · intro W hW; have hW0 := Ext.trans Ew2.out hW; clear hW; go_simp <;> with_reducible rfl
  try simp only [Act.put, List.setIfInBounds_toArray, List.set_cons_zero, List.set_cons_succ]
  refine ext_call (i := 9) rfl (by kernel_rfl) (by rfl) (fun K' hK => ?_)
  go_simp
  (go_at_call 69; (with_reducible refine (CB.out _ Ew2.out).mono ?_); rintro e w3 ⟨rfl, hx⟩; refine hK _ _ hx ?_; clear hK)
  have Ew3 := Lib.hid (Ext.trans Ew2.out hx)
  clear hx
  try simp only [Act.put, List.setIfInBounds_toArray, List.set_cons_zero, List.set_cons_succ]
  refine ext_take (i := 10) (v := ?_) rfl (by kernel_rfl) (by kernel_rfl) (by kernel_rfl) (fun _ _ _ h => h) (by rfl) ?_ ?_
  rotate_left
  · intro W hW; have hW0 := Ext.trans Ew3.out hW; clear hW; go_simp <;> with_reducible rfl
  try simp only [Act.put, List.setIfInBounds_toArray, List.set_cons_zero, List.set_cons_succ]
  refine ext_take (i := 11) (v := ?_) rfl (by kernel_rfl) (by kernel_rfl) (by kernel_rfl) (fun _ _ _ h => h) (by rfl) ?_ ?_
  rotate_left
  · intro W hW; have hW0 := Ext.trans Ew3.out hW; clear hW; go_simp <;> with_reducible rfl
  try simp only [Act.put, List.setIfInBounds_toArray, List.set_cons_zero, List.set_cons_succ]
  refine ext_take (i := 12) (v := ?_) rfl (by kernel_rfl) (by kernel_rfl) (by kernel_rfl) (fun _ _ _ h => h) (by rfl) ?_ ?_
  rotate_left
  · intro W hW; have hW0 := Ext.trans Ew3.out hW; clear hW; go_simp <;> with_reducible rfl
  try simp only [Act.put, List.setIfInBounds_toArray, List.set_cons_zero, List.set_cons_succ]
  refine wpAnyH_done (by kernel_rfl) ?_ _
  have EX := Lib.hid Ew3.out
  clear y0 y1 y2 y3 y4 z0_0 z0_1
  go_wp2_with fail
  try go_ret
  exact hD.out _ _ ⟨rfl, Ext.trans X0.out EX.out⟩

set_option maxRecDepth 8000 in
set_option maxHeartbeats 16000000 in
theorem rlearn_2 (x : Nat) (n kep : Int) (kns : List Int) (pr pn ar an : Int) (has : Bool) (vep : Int) (vns : List Int) (ep : Int) (A : Option Addr) (cap : Nat) (l : List Int) (w : World) (H : XAt w x ⟨n, kep, kns, pr, pn, ar, an, has, vep, vns⟩) (hl : l.length ≤ 1000000) (hs : Sl i64 w A l) (hb1 : -9223372036854775808 ≤ ep ∧ ep ≤ 9223372036854775807) (hk0 : 0 ≤ kep ∧ kep ≤ 1073741824) (hkl : kns.length ≤ 1000000) (hc : mayChainB ep l = true) (h5 : l.any (badB n) = false) (h2 : ep ≤ kep) :
    Calls Try.prog 41 #[.pointer (some ⟨x, 0, none⟩), .agg #[.int .i64 ep, .slice A l.length cap]] w fun e w' => e = .returned (.int .i64 7) ∧ Ext w w' := by
  refine hide_post fun D hD => ?_
  have hlt := H.lt
  have HX := Lib.hid H
  obtain ⟨kA, kc, vA, vc, kB, hk, hv⟩ := H
  simp only at hk hv
  obtain ⟨N, hN⟩ : ∃ N, N = l.length := ⟨_, rfl⟩
  rw [← hN]
  obtain ⟨w0, hw0⟩ : ∃ w0, w0 = (w.alloc (.cells #[.int .i64 ep, .slice A N cap] 26)) := ⟨_, rfl⟩
  have hb0 : Ext w w0 := by rw [hw0]; exact Ext.trans (Ext.refl _) (ext_al _ _)
  have hz0 : w0.heap.size = w.heap.size + 1 := by rw [hw0]; simp
  have KB0 : Hid (Blk w0 (w.heap.size) 26 #[.int .i64 ep, .slice A N cap]) := by show Blk _ _ _ _; rw [hw0]; exact (Blk.new' _ _ _ _ (by simp))
  have z0_0 : ∀ V, Ext w0 V → V.cell? ⟨w.heap.size, 0, none⟩ = some (.int .i64 ep) := fun V h => (KB0.out.stay h).cell 0
  have z0_1 : ∀ V, Ext w0 V → V.cell? ⟨w.heap.size, 1, none⟩ = some (.slice A N cap) := fun V h => (KB0.out.stay h).cell 1
  have y0 : ∀ V, Ext w0 V → V.cell? ⟨x, 0, none⟩ = some (.int .i64 n) := fun V h => ((kB.stay hb0).stay h).cell 0
  have y1 : ∀ V, Ext w0 V → V.cell? ⟨x, 1, none⟩ = some (.int .i64 kep) := fun V h => ((kB.stay hb0).stay h).cell 1
  have y2 : ∀ V, Ext w0 V → V.cell? ⟨x, 2, none⟩ = some (.slice kA kns.length kc) := fun V h => ((kB.stay hb0).stay h).cell 2
  have y3 : ∀ V, Ext w0 V → V.cell? ⟨x, 3, none⟩ = some (.int .i64 pr) := fun V h => ((kB.stay hb0).stay h).cell 3
  have y4 : ∀ V, Ext w0 V → V.cell? ⟨x, 4, none⟩ = some (.int .i64 pn) := fun V h => ((kB.stay hb0).stay h).cell 4
  have HSL0 : Hid (∀ V, Ext w0 V → Sl i64 V A l) := fun V h => hs.stay (Ext.trans hb0 h)
  have HNN := Lib.hid hN
  have HL : Hid (l.length ≤ 1000000) := hl
  have KBW := Lib.hid kB
  have HK := Lib.hid hk
  have HV := Lib.hid hv
  have HW := Lib.hid hw0
  have X0 := Lib.hid hb0
  have HZ0 := Lib.hid hz0
  have HLT := Lib.hid hlt
  have CMC : Hid (∀ V, Ext w0 V → Calls Try.prog 14 #[.agg #[.int .i64 ep, .slice A N cap]] V fun e w' => e = .returned (.bool true) ∧ Ext V w') := fun V h => by rw [← hc, hN]; exact refMayChain_any ep A cap l V (by omega) (hs.stay (Ext.trans hb0 h))
  have CB : Hid (∀ V, Ext w0 V → Calls Try.prog 69 #[.agg #[.int .i64 ep, .slice A N cap], .int .i64 n] V fun e w' => e = .returned (.bool true) ∧ Ext V w') := fun V h => by
    have h7 := belowRef_any ep n A cap l V (by omega) (hs.stay (Ext.trans hb0 h))
    rw [all_fits n (fun y hy => okNodes_mem l [] (by unfold mayChainB at hc; simp only [Bool.and_eq_true] at hc; exact hc.2) y hy), h5] at h7
    rw [hN]
    exact h7
  clear hb0 hw0 hz0 hk hv kB hs hl hlt hN hkl hc h5
  have E1 : Hid (Ext w0 w0) := Ext.refl _
  go_enter Try.func41, Try.ntmps41
  go_upto_region 1 with fail
  rw [← HW.out]
  refine ext_begin (by kernel_rfl) ?_
  have E1d := Lib.hid (Ext.drewR E1.out)
  refine ext_take (i := 0) (v := ?_) rfl (by kernel_rfl) (by kernel_rfl) (by kernel_rfl) (fun _ _ _ h => h) (by rfl) ?_ ?_
  rotate_left
  · intro W hW; have hW0 := Ext.trans E1d.out hW; clear hW; go_simp <;> with_reducible rfl
  try simp only [Act.put, List.setIfInBounds_toArray, List.set_cons_zero, List.set_cons_succ]
  refine ext_call (i := 1) rfl (by kernel_rfl) (by rfl) (fun K' hK => ?_)
  go_simp
  (go_at_call 14; (with_reducible refine (CMC.out _ E1d.out).mono ?_); rintro e w2 ⟨rfl, hx⟩; refine hK _ _ hx ?_; clear hK)
  have Ew2 := Lib.hid (Ext.trans E1d.out hx)
  clear hx
  try simp only [Act.put, List.setIfInBounds_toArray, List.set_cons_zero, List.set_cons_succ]
  refine ext_take (i := 2) (v := ?_) rfl (by kernel_rfl) (by kernel_rfl) (by kernel_rfl) (fun _ _ _ h => h) (by rfl) ?_ ?_
  rotate_left
  · intro W hW; have hW0 := Ext.trans Ew2.out hW; clear hW; go_simp <;> with_reducible rfl
  try simp only [Act.put, List.setIfInBounds_toArray, List.set_cons_zero, List.set_cons_succ]
  refine ext_take (i := 3) (v := ?_) rfl (by kernel_rfl) (by kernel_rfl) (by kernel_rfl) (fun _ _ _ h => h) (by rfl) ?_ ?_
  rotate_left
  · intro W hW; have hW0 := Ext.trans Ew2.out hW; clear hW; go_simp <;> with_reducible rfl
  try simp only [Act.put, List.setIfInBounds_toArray, List.set_cons_zero, List.set_cons_succ]
  refine ext_take (i := 4) (v := ?_) rfl (by kernel_rfl) (by kernel_rfl) (by kernel_rfl) (fun _ _ _ h => h) (by rfl) ?_ ?_
  rotate_left
  · intro W hW; have hW0 := Ext.trans Ew2.out hW; clear hW; go_simp <;> with_reducible rfl
  try simp only [Act.put, List.setIfInBounds_toArray, List.set_cons_zero, List.set_cons_succ]
  refine ext_take (i := 5) (v := ?_) rfl (by kernel_rfl) (by kernel_rfl) (by kernel_rfl) (fun _ _ _ h => h) (by rfl) ?_ ?_
  rotate_left
  · intro W hW; have hW0 := Ext.trans Ew2.out hW; clear hW; go_simp <;> with_reducible rfl
  try simp only [Act.put, List.setIfInBounds_toArray, List.set_cons_zero, List.set_cons_succ]
  refine ext_take (i := 6) (v := ?_) rfl (by kernel_rfl) (by kernel_rfl) (by kernel_rfl) (fun _ _ _ h => h) (by rfl) ?_ ?_
  rotate_left
  · intro W hW; have hW0 := Ext.trans Ew2.out hW; clear hW; go_simp <;> with_reducible rfl
  try simp only [Act.put, List.setIfInBounds_toArray, List.set_cons_zero, List.set_cons_succ]
  refine ext_take (i := 7) (v := ?_) rfl (by kernel_rfl) (by kernel_rfl) (by kernel_rfl) (fun _ _ _ h => h) (by rfl) ?_ ?_
  rotate_left
  · intro W hW; have hW0 := Ext.trans Ew2.out hW; clear hW; go_simp <;> with_reducible rfl
  try simp only [Act.put, List.setIfInBounds_toArray, List.set_cons_zero, List.set_cons_succ]
  refine ext_take (i := 8) (v := ?_) rfl (by kernel_rfl) (by kernel_rfl) (by kernel_rfl) (fun _ _ _ h => h) (by rfl) ?_ ?_
  rotate_left
  · intro W hW; have hW0 := Ext.trans Ew2.out hW; clear hW; go_simp <;> with_reducible rfl
  try simp only [Act.put, List.setIfInBounds_toArray, List.set_cons_zero, List.set_cons_succ]
  refine ext_call (i := 9) rfl (by kernel_rfl) (by rfl) (fun K' hK => ?_)
  go_simp
  (go_at_call 69; (with_reducible refine (CB.out _ Ew2.out).mono ?_); rintro e w3 ⟨rfl, hx⟩; refine hK _ _ hx ?_; clear hK)
  have Ew3 := Lib.hid (Ext.trans Ew2.out hx)
  clear hx
  try simp only [Act.put, List.setIfInBounds_toArray, List.set_cons_zero, List.set_cons_succ]
  refine ext_take (i := 10) (v := ?_) rfl (by kernel_rfl) (by kernel_rfl) (by kernel_rfl) (fun _ _ _ h => h) (by rfl) ?_ ?_
  rotate_left
  · intro W hW; have hW0 := Ext.trans Ew3.out hW; clear hW; go_simp <;> with_reducible rfl
  try simp only [Act.put, List.setIfInBounds_toArray, List.set_cons_zero, List.set_cons_succ]
  refine ext_take (i := 11) (v := ?_) rfl (by kernel_rfl) (by kernel_rfl) (by kernel_rfl) (fun _ _ _ h => h) (by rfl) ?_ ?_
  rotate_left
  · intro W hW; have hW0 := Ext.trans Ew3.out hW; clear hW; go_simp <;> with_reducible rfl
  try simp only [Act.put, List.setIfInBounds_toArray, List.set_cons_zero, List.set_cons_succ]
  refine ext_take (i := 12) (v := ?_) rfl (by kernel_rfl) (by kernel_rfl) (by kernel_rfl) (fun _ _ _ h => h) (by rfl) ?_ ?_
  rotate_left
  · intro W hW; have hW0 := Ext.trans Ew3.out hW; clear hW; go_simp <;> with_reducible rfl
  try simp only [Act.put, List.setIfInBounds_toArray, List.set_cons_zero, List.set_cons_succ]
  refine wpAnyH_done (by kernel_rfl) ?_ _
  go_upto_region 3 with fail
  refine ext_begin (by kernel_rfl) ?_
  have Ew3d := Lib.hid (Ext.drewR Ew3.out)
  refine ext_take (i := 0) (v := ?_) rfl (by kernel_rfl) (by kernel_rfl) (by kernel_rfl) (fun _ _ _ h => h) (by rfl) ?_ ?_
  rotate_left
  · intro W hW; have hW0 := Ext.trans Ew3d.out hW; clear hW; go_simp <;> with_reducible rfl
  try simp only [Act.put, List.setIfInBounds_toArray, List.set_cons_zero, List.set_cons_succ]
  refine ext_take (i := 1) (v := ?_) rfl (by kernel_rfl) (by kernel_rfl) (by kernel_rfl) (fun _ _ _ h => h) (by rfl) ?_ ?_
  rotate_left
  · intro W hW; have hW0 := Ext.trans Ew3d.out hW; clear hW; go_simp <;> with_reducible rfl
  try simp only [Act.put, List.setIfInBounds_toArray, List.set_cons_zero, List.set_cons_succ]
  refine ext_take (i := 2) (v := ?_) rfl (by kernel_rfl) (by kernel_rfl) (by kernel_rfl) (fun _ _ _ h => h) (by rfl) ?_ ?_
  rotate_left
  · intro W hW; have hW0 := Ext.trans Ew3d.out hW; clear hW; go_simp <;> with_reducible rfl
  try simp only [Act.put, List.setIfInBounds_toArray, List.set_cons_zero, List.set_cons_succ]
  refine ext_take (i := 3) (v := ?_) rfl (by kernel_rfl) (by kernel_rfl) (by kernel_rfl) (fun _ _ _ h => h) (by rfl) ?_ ?_
  rotate_left
  · intro W hW; have hW0 := Ext.trans Ew3d.out hW; clear hW; go_simp <;> with_reducible rfl
  try simp only [Act.put, List.setIfInBounds_toArray, List.set_cons_zero, List.set_cons_succ]
  refine ext_take (i := 4) (v := ?_) rfl (by kernel_rfl) (by kernel_rfl) (by kernel_rfl) (fun _ _ _ h => h) (by rfl) ?_ ?_
  rotate_left
  · intro W hW; have hW0 := Ext.trans Ew3d.out hW; clear hW; go_simp <;> with_reducible rfl
  try simp only [Act.put, List.setIfInBounds_toArray, List.set_cons_zero, List.set_cons_succ]
  refine ext_take (i := 5) (v := ?_) rfl (by kernel_rfl) (by kernel_rfl) (by kernel_rfl) (fun _ _ _ h => h) (by rfl) ?_ ?_
  rotate_left
  · intro W hW; have hW0 := Ext.trans Ew3d.out hW; clear hW; go_simp <;> with_reducible rfl
  try simp only [Act.put, List.setIfInBounds_toArray, List.set_cons_zero, List.set_cons_succ]
  refine ext_take (i := 6) (v := ?_) rfl (by kernel_rfl) (by kernel_rfl) (by kernel_rfl) (fun _ _ _ h => h) (by rfl) ?_ ?_
  rotate_left
  · intro W hW; have hW0 := Ext.trans Ew3d.out hW; clear hW; go_simp <;> with_reducible rfl
  try simp only [Act.put, List.setIfInBounds_toArray, List.set_cons_zero, List.set_cons_succ]
  refine ext_take (i := 7) (v := ?_) rfl (by kernel_rfl) (by kernel_rfl) (by kernel_rfl) (fun _ _ _ h => h) (by rfl) ?_ ?_
  rotate_left
  · intro W hW; have hW0 := Ext.trans Ew3d.out hW; clear hW; go_simp <;> with_reducible rfl
  try simp only [Act.put, List.setIfInBounds_toArray, List.set_cons_zero, List.set_cons_succ]
  refine ext_take (i := 8) (v := ?_) rfl (by kernel_rfl) (by kernel_rfl) (by kernel_rfl) (fun _ _ _ h => h) (by rfl) ?_ ?_
  rotate_left
  · intro W hW; have hW0 := Ext.trans Ew3d.out hW; clear hW; go_simp <;> with_reducible rfl
  try simp only [Act.put, List.setIfInBounds_toArray, List.set_cons_zero, List.set_cons_succ]
  refine wpAnyH_done (by kernel_rfl) ?_ _
  have EX := Lib.hid Ew3d.out
  clear y0 y1 y2 y3 y4 z0_0 z0_1
  go_wp2_with fail
  try go_ret
  exact hD.out _ _ ⟨rfl, Ext.trans X0.out EX.out⟩

set_option maxRecDepth 8000 in
set_option maxHeartbeats 16000000 in
theorem rlearn_ok (x : Nat) (n kep : Int) (kns : List Int) (pr pn ar an : Int) (has : Bool) (vep : Int) (vns : List Int) (ep : Int) (A : Option Addr) (cap : Nat) (l : List Int) (w : World) (H : XAt w x ⟨n, kep, kns, pr, pn, ar, an, has, vep, vns⟩) (hl : l.length ≤ 1000000) (hs : Sl i64 w A l) (hb1 : -9223372036854775808 ≤ ep ∧ ep ≤ 9223372036854775807) (hk0 : 0 ≤ kep ∧ kep ≤ 1073741824) (hkl : kns.length ≤ 1000000) (hc : mayChainB ep l = true) (h5 : l.any (badB n) = false) (h2 : kep < ep) :
    Calls Try.prog 41 #[.pointer (some ⟨x, 0, none⟩), .agg #[.int .i64 ep, .slice A l.length cap]] w fun e w' => e = .returned (.int .i64 0) ∧ XAt w' x ⟨n, ep, l, 0, 0, 0, 0, false, 0, []⟩ ∧ Frm (oneA x) w w' := by
  refine hide_post fun D hD => ?_
  have hlt := H.lt
  have HX := Lib.hid H
  obtain ⟨kA, kc, vA, vc, kB, hk, hv⟩ := H
  simp only at hk hv
  obtain ⟨N, hN⟩ : ∃ N, N = l.length := ⟨_, rfl⟩
  rw [← hN]
  obtain ⟨w0, hw0⟩ : ∃ w0, w0 = (w.alloc (.cells #[.int .i64 ep, .slice A N cap] 26)) := ⟨_, rfl⟩
  have hb0 : Ext w w0 := by rw [hw0]; exact Ext.trans (Ext.refl _) (ext_al _ _)
  have hz0 : w0.heap.size = w.heap.size + 1 := by rw [hw0]; simp
  have KB0 : Hid (Blk w0 (w.heap.size) 26 #[.int .i64 ep, .slice A N cap]) := by show Blk _ _ _ _; rw [hw0]; exact (Blk.new' _ _ _ _ (by simp))
  have z0_0 : ∀ V, Ext w0 V → V.cell? ⟨w.heap.size, 0, none⟩ = some (.int .i64 ep) := fun V h => (KB0.out.stay h).cell 0
  have z0_1 : ∀ V, Ext w0 V → V.cell? ⟨w.heap.size, 1, none⟩ = some (.slice A N cap) := fun V h => (KB0.out.stay h).cell 1
  have y0 : ∀ V, Ext w0 V → V.cell? ⟨x, 0, none⟩ = some (.int .i64 n) := fun V h => ((kB.stay hb0).stay h).cell 0
  have y1 : ∀ V, Ext w0 V → V.cell? ⟨x, 1, none⟩ = some (.int .i64 kep) := fun V h => ((kB.stay hb0).stay h).cell 1
  have y2 : ∀ V, Ext w0 V → V.cell? ⟨x, 2, none⟩ = some (.slice kA kns.length kc) := fun V h => ((kB.stay hb0).stay h).cell 2
  have y3 : ∀ V, Ext w0 V → V.cell? ⟨x, 3, none⟩ = some (.int .i64 pr) := fun V h => ((kB.stay hb0).stay h).cell 3
  have y4 : ∀ V, Ext w0 V → V.cell? ⟨x, 4, none⟩ = some (.int .i64 pn) := fun V h => ((kB.stay hb0).stay h).cell 4
  have HSL0 : Hid (∀ V, Ext w0 V → Sl i64 V A l) := fun V h => hs.stay (Ext.trans hb0 h)
  have HNN := Lib.hid hN
  have HL : Hid (l.length ≤ 1000000) := hl
  have KBW := Lib.hid kB
  have HK := Lib.hid hk
  have HV := Lib.hid hv
  have HW := Lib.hid hw0
  have X0 := Lib.hid hb0
  have HZ0 := Lib.hid hz0
  have HLT := Lib.hid hlt
  have CMC : Hid (∀ V, Ext w0 V → Calls Try.prog 14 #[.agg #[.int .i64 ep, .slice A N cap]] V fun e w' => e = .returned (.bool true) ∧ Ext V w') := fun V h => by rw [← hc, hN]; exact refMayChain_any ep A cap l V (by omega) (hs.stay (Ext.trans hb0 h))
  have CB : Hid (∀ V, Ext w0 V → Calls Try.prog 69 #[.agg #[.int .i64 ep, .slice A N cap], .int .i64 n] V fun e w' => e = .returned (.bool true) ∧ Ext V w') := fun V h => by
    have h7 := belowRef_any ep n A cap l V (by omega) (hs.stay (Ext.trans hb0 h))
    rw [all_fits n (fun y hy => okNodes_mem l [] (by unfold mayChainB at hc; simp only [Bool.and_eq_true] at hc; exact hc.2) y hy), h5] at h7
    rw [hN]
    exact h7
  have hle : ¬ ep ≤ kep := by omega
  clear hb0 hw0 hz0 hk hv kB hs hl hlt hN hkl hc h5
  have E1 : Hid (Ext w0 w0) := Ext.refl _
  go_enter Try.func41, Try.ntmps41
  go_upto_region 1 with fail
  rw [← HW.out]
  refine ext_begin (by kernel_rfl) ?_
  have E1d := Lib.hid (Ext.drewR E1.out)
  refine ext_take (i := 0) (v := ?_) rfl (by kernel_rfl) (by kernel_rfl) (by kernel_rfl) (fun _ _ _ h => h) (by rfl) ?_ ?_
  rotate_left
  · intro W hW; have hW0 := Ext.trans E1d.out hW; clear hW; go_simp <;> with_reducible rfl
  try simp only [Act.put, List.setIfInBounds_toArray, List.set_cons_zero, List.set_cons_succ]
  refine ext_call (i := 1) rfl (by kernel_rfl) (by rfl) (fun K' hK => ?_)
  go_simp
  (go_at_call 14; (with_reducible refine (CMC.out _ E1d.out).mono ?_); rintro e w2 ⟨rfl, hx⟩; refine hK _ _ hx ?_; clear hK)
  have Ew2 := Lib.hid (Ext.trans E1d.out hx)
  clear hx
  try simp only [Act.put, List.setIfInBounds_toArray, List.set_cons_zero, List.set_cons_succ]
  refine ext_take (i := 2) (v := ?_) rfl (by kernel_rfl) (by kernel_rfl) (by kernel_rfl) (fun _ _ _ h => h) (by rfl) ?_ ?_
  rotate_left
  · intro W hW; have hW0 := Ext.trans Ew2.out hW; clear hW; go_simp <;> with_reducible rfl
  try simp only [Act.put, List.setIfInBounds_toArray, List.set_cons_zero, List.set_cons_succ]
  refine ext_take (i := 3) (v := ?_) rfl (by kernel_rfl) (by kernel_rfl) (by kernel_rfl) (fun _ _ _ h => h) (by rfl) ?_ ?_
  rotate_left
  · intro W hW; have hW0 := Ext.trans Ew2.out hW; clear hW; go_simp <;> with_reducible rfl
  try simp only [Act.put, List.setIfInBounds_toArray, List.set_cons_zero, List.set_cons_succ]
  refine ext_take (i := 4) (v := ?_) rfl (by kernel_rfl) (by kernel_rfl) (by kernel_rfl) (fun _ _ _ h => h) (by rfl) ?_ ?_
  rotate_left
  · intro W hW; have hW0 := Ext.trans Ew2.out hW; clear hW; go_simp <;> with_reducible rfl
  try simp only [Act.put, List.setIfInBounds_toArray, List.set_cons_zero, List.set_cons_succ]
  refine ext_take (i := 5) (v := ?_) rfl (by kernel_rfl) (by kernel_rfl) (by kernel_rfl) (fun _ _ _ h => h) (by rfl) ?_ ?_
  rotate_left
  · intro W hW; have hW0 := Ext.trans Ew2.out hW; clear hW; go_simp <;> with_reducible rfl
  try simp only [Act.put, List.setIfInBounds_toArray, List.set_cons_zero, List.set_cons_succ]
  refine ext_take (i := 6) (v := ?_) rfl (by kernel_rfl) (by kernel_rfl) (by kernel_rfl) (fun _ _ _ h => h) (by rfl) ?_ ?_
  rotate_left
  · intro W hW; have hW0 := Ext.trans Ew2.out hW; clear hW; go_simp <;> with_reducible rfl
  try simp only [Act.put, List.setIfInBounds_toArray, List.set_cons_zero, List.set_cons_succ]
  refine ext_take (i := 7) (v := ?_) rfl (by kernel_rfl) (by kernel_rfl) (by kernel_rfl) (fun _ _ _ h => h) (by rfl) ?_ ?_
  rotate_left
  · intro W hW; have hW0 := Ext.trans Ew2.out hW; clear hW; go_simp <;> with_reducible rfl
  try simp only [Act.put, List.setIfInBounds_toArray, List.set_cons_zero, List.set_cons_succ]
  refine ext_take (i := 8) (v := ?_) rfl (by kernel_rfl) (by kernel_rfl) (by kernel_rfl) (fun _ _ _ h => h) (by rfl) ?_ ?_
  rotate_left
  · intro W hW; have hW0 := Ext.trans Ew2.out hW; clear hW; go_simp <;> with_reducible rfl
  try simp only [Act.put, List.setIfInBounds_toArray, List.set_cons_zero, List.set_cons_succ]
  refine ext_call (i := 9) rfl (by kernel_rfl) (by rfl) (fun K' hK => ?_)
  go_simp
  (go_at_call 69; (with_reducible refine (CB.out _ Ew2.out).mono ?_); rintro e w3 ⟨rfl, hx⟩; refine hK _ _ hx ?_; clear hK)
  have Ew3 := Lib.hid (Ext.trans Ew2.out hx)
  clear hx
  try simp only [Act.put, List.setIfInBounds_toArray, List.set_cons_zero, List.set_cons_succ]
  refine ext_take (i := 10) (v := ?_) rfl (by kernel_rfl) (by kernel_rfl) (by kernel_rfl) (fun _ _ _ h => h) (by rfl) ?_ ?_
  rotate_left
  · intro W hW; have hW0 := Ext.trans Ew3.out hW; clear hW; go_simp <;> with_reducible rfl
  try simp only [Act.put, List.setIfInBounds_toArray, List.set_cons_zero, List.set_cons_succ]
  refine ext_take (i := 11) (v := ?_) rfl (by kernel_rfl) (by kernel_rfl) (by kernel_rfl) (fun _ _ _ h => h) (by rfl) ?_ ?_
  rotate_left
  · intro W hW; have hW0 := Ext.trans Ew3.out hW; clear hW; go_simp <;> with_reducible rfl
  try simp only [Act.put, List.setIfInBounds_toArray, List.set_cons_zero, List.set_cons_succ]
  refine ext_take (i := 12) (v := ?_) rfl (by kernel_rfl) (by kernel_rfl) (by kernel_rfl) (fun _ _ _ h => h) (by rfl) ?_ ?_
  rotate_left
  · intro W hW; have hW0 := Ext.trans Ew3.out hW; clear hW; go_simp <;> with_reducible rfl
  try simp only [Act.put, List.setIfInBounds_toArray, List.set_cons_zero, List.set_cons_succ]
  refine wpAnyH_done (by kernel_rfl) ?_ _
  go_upto_region 3 with fail
  refine ext_begin (by kernel_rfl) ?_
  have Ew3d := Lib.hid (Ext.drewR Ew3.out)
  refine ext_take (i := 0) (v := ?_) rfl (by kernel_rfl) (by kernel_rfl) (by kernel_rfl) (fun _ _ _ h => h) (by rfl) ?_ ?_
  rotate_left
  · intro W hW; have hW0 := Ext.trans Ew3d.out hW; clear hW; go_simp <;> with_reducible rfl
  try simp only [Act.put, List.setIfInBounds_toArray, List.set_cons_zero, List.set_cons_succ]
  refine ext_take (i := 1) (v := ?_) rfl (by kernel_rfl) (by kernel_rfl) (by kernel_rfl) (fun _ _ _ h => h) (by rfl) ?_ ?_
  rotate_left
  · intro W hW; have hW0 := Ext.trans Ew3d.out hW; clear hW; go_simp <;> with_reducible rfl
  try simp only [Act.put, List.setIfInBounds_toArray, List.set_cons_zero, List.set_cons_succ]
  refine ext_take (i := 2) (v := ?_) rfl (by kernel_rfl) (by kernel_rfl) (by kernel_rfl) (fun _ _ _ h => h) (by rfl) ?_ ?_
  rotate_left
  · intro W hW; have hW0 := Ext.trans Ew3d.out hW; clear hW; go_simp <;> with_reducible rfl
  try simp only [Act.put, List.setIfInBounds_toArray, List.set_cons_zero, List.set_cons_succ]
  refine ext_take (i := 3) (v := ?_) rfl (by kernel_rfl) (by kernel_rfl) (by kernel_rfl) (fun _ _ _ h => h) (by rfl) ?_ ?_
  rotate_left
  · intro W hW; have hW0 := Ext.trans Ew3d.out hW; clear hW; go_simp <;> with_reducible rfl
  try simp only [Act.put, List.setIfInBounds_toArray, List.set_cons_zero, List.set_cons_succ]
  refine ext_take (i := 4) (v := ?_) rfl (by kernel_rfl) (by kernel_rfl) (by kernel_rfl) (fun _ _ _ h => h) (by rfl) ?_ ?_
  rotate_left
  · intro W hW; have hW0 := Ext.trans Ew3d.out hW; clear hW; go_simp <;> with_reducible rfl
  try simp only [Act.put, List.setIfInBounds_toArray, List.set_cons_zero, List.set_cons_succ]
  refine ext_take (i := 5) (v := ?_) rfl (by kernel_rfl) (by kernel_rfl) (by kernel_rfl) (fun _ _ _ h => h) (by rfl) ?_ ?_
  rotate_left
  · intro W hW; have hW0 := Ext.trans Ew3d.out hW; clear hW; go_simp <;> with_reducible rfl
  try simp only [Act.put, List.setIfInBounds_toArray, List.set_cons_zero, List.set_cons_succ]
  refine ext_take (i := 6) (v := ?_) rfl (by kernel_rfl) (by kernel_rfl) (by kernel_rfl) (fun _ _ _ h => h) (by rfl) ?_ ?_
  rotate_left
  · intro W hW; have hW0 := Ext.trans Ew3d.out hW; clear hW; go_simp <;> with_reducible rfl
  try simp only [Act.put, List.setIfInBounds_toArray, List.set_cons_zero, List.set_cons_succ]
  refine ext_take (i := 7) (v := ?_) rfl (by kernel_rfl) (by kernel_rfl) (by kernel_rfl) (fun _ _ _ h => h) (by rfl) ?_ ?_
  rotate_left
  · intro W hW; have hW0 := Ext.trans Ew3d.out hW; clear hW; go_simp <;> with_reducible rfl
  try simp only [Act.put, List.setIfInBounds_toArray, List.set_cons_zero, List.set_cons_succ]
  refine ext_take (i := 8) (v := ?_) rfl (by kernel_rfl) (by kernel_rfl) (by kernel_rfl) (fun _ _ _ h => h) (by rfl) ?_ ?_
  rotate_left
  · intro W hW; have hW0 := Ext.trans Ew3d.out hW; clear hW; go_simp <;> with_reducible rfl
  try simp only [Act.put, List.setIfInBounds_toArray, List.set_cons_zero, List.set_cons_succ]
  refine wpAnyH_done (by kernel_rfl) ?_ _
  go_upto_region 5 with fail
  obtain ⟨Wa, hWa⟩ : ∃ Wa, Wa = w3.drew := ⟨_, rfl⟩
  have EX : Hid (Ext w0 Wa) := by (show Ext _ _); rw [hWa]; exact Ew3d.out
  rw [← hWa]
  clear hWa Ew3d
  clear y0 y1 y2 y3 y4 z0_0 z0_1
  have XAa := Lib.hid (HX.out.stay (Ext.trans X0.out EX.out))
  have KXa := Lib.hid ((KBW.out.stay X0.out).stay EX.out)
  have HSL : Hid (∀ V, Ext Wa V → Sl i64 V A l) := fun V h => HSL0.out V (Ext.trans EX.out h)
  have HZa : Hid (w.heap.size + 1 ≤ Wa.heap.size) := by (show _ ≤ _); have h1 := EX.out.size; have h2 := HZ0.out; omega
  have z0_0 : ∀ V, Frm (fun k => k = x ∨ Wa.heap.size ≤ k) Wa V → V.cell? ⟨w.heap.size, 0, none⟩ = some (.int .i64 ep) := fun V h => ((KB0.out.stay EX.out).frm h (fun e => by have h1 := HLT.out; have h2 := HZa.out; rcases e with e | e <;> omega)).cell 0
  have z0_1 : ∀ V, Frm (fun k => k = x ∨ Wa.heap.size ≤ k) Wa V → V.cell? ⟨w.heap.size, 1, none⟩ = some (.slice A N cap) := fun V h => ((KB0.out.stay EX.out).frm h (fun e => by have h1 := HLT.out; have h2 := HZa.out; rcases e with e | e <;> omega)).cell 1
  have E0g : Hid (Frm (fun k => k = x ∨ Wa.heap.size ≤ k) Wa Wa.drew) := (Frm.refl _ _).drew
  refine rz_begin ((fun k => k = x ∨ Wa.heap.size ≤ k)) [] (by kernel_rfl) ?_
  refine rz_take [8, 9, 10] (i := 0) (v := ?_) rfl (by kernel_rfl) (by kernel_rfl) (by kernel_rfl) (by kernel_rfl) (by kernel_rfl) (by kernel_rfl) (fun _ _ _ h => h) (by rfl) ?_ ?_
  rotate_left
  · intro W hW; have hW0 := Frm.tr E0g.out hW; clear hW; go_simp <;> with_reducible rfl
  try simp only [Act.put, List.setIfInBounds_toArray, List.set_cons_zero, List.set_cons_succ]
  refine rz_take [2, 7, 8, 9, 10] (i := 1) (v := ?_) rfl (by kernel_rfl) (by kernel_rfl) (by kernel_rfl) (by kernel_rfl) (by kernel_rfl) (by kernel_rfl) (fun _ _ _ h => h) (by rfl) ?_ ?_
  rotate_left
  · intro W hW; have hW0 := Frm.tr E0g.out hW; clear hW; go_simp <;> with_reducible rfl
  try simp only [Act.put, List.setIfInBounds_toArray, List.set_cons_zero, List.set_cons_succ]
  refine rz_take [7, 8, 9, 10] (i := 2) (v := ?_) rfl (by kernel_rfl) (by kernel_rfl) (by kernel_rfl) (by kernel_rfl) (by kernel_rfl) (by kernel_rfl) (fun _ _ _ h => h) (by rfl) ?_ ?_
  rotate_left
  · intro W hW; have hW0 := Frm.tr E0g.out hW; clear hW; go_simp <;> with_reducible rfl
  try simp only [Act.put, List.setIfInBounds_toArray, List.set_cons_zero, List.set_cons_succ]
  refine rz_take [5, 6, 7, 8, 9, 10] (i := 4) (v := ?_) rfl (by kernel_rfl) (by kernel_rfl) (by kernel_rfl) (by kernel_rfl) (by kernel_rfl) (by kernel_rfl) (fun _ _ _ h => h) (by rfl) ?_ ?_
  rotate_left
  · intro W hW; have hW0 := Frm.tr E0g.out hW; clear hW; go_simp <;> with_reducible rfl
  try simp only [Act.put, List.setIfInBounds_toArray, List.set_cons_zero, List.set_cons_succ]
  refine rz_take [6, 7, 8, 9, 10] (i := 5) (v := ?_) rfl (by kernel_rfl) (by kernel_rfl) (by kernel_rfl) (by kernel_rfl) (by kernel_rfl) (by kernel_rfl) (fun _ _ _ h => h) (by rfl) ?_ ?_
  rotate_left
  · intro W hW; have hW0 := Frm.tr E0g.out hW; clear hW; go_simp <;> with_reducible rfl
  try simp only [Act.put, List.setIfInBounds_toArray, List.set_cons_zero, List.set_cons_succ]
  refine rz_call (i := 3) rfl (by kernel_rfl) (by rfl) (fun K hK => ?_)
  go_simp
  refine hK _ _ (Frm.of_alloc _ _ _) ?_; clear hK K
  obtain ⟨W1, hW1⟩ : ∃ W1, W1 = (Wa.alloc (.cells #[] 3)).drew := ⟨_, rfl⟩
  have O1 : Hid (W1.ownsRow Wa.heap.size 3 1 (.slice (some ⟨Wa.heap.size, 0, none⟩) 0 0) 0 []) := by (show World.ownsRow _ _ _ _ _ _ _); rw [hW1]; exact World.ownsRow_made (base := Wa.heap.size) (e := 3) (size := 1) Wa.drew #[] 0 (Nat.le_refl _) (Nat.zero_le _) rfl
  have X1 : Hid (Ext Wa.drew W1) := by (show Ext _ _); rw [hW1]; exact Ext.alloc Wa.drew _
  have E1x : Hid (Frm (fun k => k = x ∨ Wa.heap.size ≤ k) Wa W1) := Frm.tr E0g.out (Frm.of_below X1.out _)
  have XA1 : Hid (Ext Wa W1) := Ext.trans (Ext.drewR (Ext.refl _)) X1.out
  try rw [← hW1]
  clear hW1
  try simp only [Act.put, List.setIfInBounds_toArray, List.set_cons_zero, List.set_cons_succ]
  refine rz_call (i := 6) rfl (by kernel_rfl) (by rfl) (fun K hK => ?_)
  refine wp_append_list (.tmp 30) (.tmp 32) 24 rfl Wa.heap.size 3 (.int .i64 0) 8 Try.underlying24 info_int rfl (by decide) (.slice (some ⟨Wa.heap.size, 0, none⟩) 0 0) 0 [] rfl O1.out i64 A l N cap HNN.out rfl (HSL.out _ XA1.out) (fun _ => rfl) (by have := HL.out; omega) XA1.out.size ?_
  intro v2 W2 oo gg bb
  rw [Nat.zero_add, ← HNN.out] at oo
  obtain ⟨A2, c2, hv2⟩ := own_shape oo
  subst hv2
  refine hK _ _ (Frm.of_grown gg (fun k hk => Or.inr (by have e2 := Option.some.inj (show some k = some Wa.heap.size from hk); omega))) ?_; clear hK K
  have IN2 : Hid (In W2 A2 c2 l) := by
    have h7 := oo
    rw [List.nil_append, HNN.out] at h7
    obtain ⟨A5, c5, e5, h8⟩ := In.own h7
    injection e5 with e6 e7 e8
    subst e6 e8
    exact h8
  have E2x : Hid (Frm (fun k => k = x ∨ Wa.heap.size ≤ k) Wa W2) := Frm.tr E1x.out (Frm.of_grown gg (fun k hk => Or.inr (by have e2 := Option.some.inj (show some k = some Wa.heap.size from hk); omega)))
  have X2 : Hid (Ext Wa W2) := XA1.out.grown gg XA1.out.size (fun k hk => by have e2 := Option.some.inj (show some Wa.heap.size = some k from hk); omega)
  have KX2 := Lib.hid (KXa.out.stay X2.out)
  clear oo gg bb
  try simp only [Act.put, List.setIfInBounds_toArray, List.set_cons_zero, List.set_cons_succ]
  refine rz_take [8, 9, 10] (i := 7) (v := ?_) rfl (by kernel_rfl) (by kernel_rfl) (by kernel_rfl) (by kernel_rfl) (by kernel_rfl) (by kernel_rfl) (fun _ _ _ h => h) (by rfl) ?_ ?_
  rotate_left
  · intro W hW; have hW0 := Frm.tr E2x.out hW; clear hW; go_simp <;> with_reducible rfl
  try simp only [Act.put, List.setIfInBounds_toArray, List.set_cons_zero, List.set_cons_succ]
  refine rz_take [9, 10] (i := 8) (v := ?_) rfl (by kernel_rfl) (by kernel_rfl) (by kernel_rfl) (by kernel_rfl) (by kernel_rfl) (by kernel_rfl) (fun _ _ _ h => h) (by rfl) ?_ ?_
  rotate_left
  · intro W hW; have hW0 := Frm.tr E2x.out hW; clear hW; go_simp <;> with_reducible rfl
  try simp only [Act.put, List.setIfInBounds_toArray, List.set_cons_zero, List.set_cons_succ]
  refine rz_take [10] (i := 9) (v := ?_) rfl (by kernel_rfl) (by kernel_rfl) (by kernel_rfl) (by kernel_rfl) (by kernel_rfl) (by kernel_rfl) (fun _ _ _ h => h) (by rfl) ?_ ?_
  rotate_left
  · intro W hW; have hW0 := Frm.tr E2x.out hW; clear hW; go_simp <;> with_reducible rfl
  try simp only [Act.put, List.setIfInBounds_toArray, List.set_cons_zero, List.set_cons_succ]
  refine rz_call (i := 10) rfl (by kernel_rfl) (by rfl) (fun K hK => ?_)
  have q1 := KX2.out.frozen 1
  have r1 := KX2.out.cell 1
  have q2 := KX2.out.frozen 2
  have r2 := KX2.out.cell 2
  simp [acells] at r1 r2
  go_simp
  refine hK _ _ (Frm.tr (Frm.tr (Frm.refl (fun k => k = x ∨ Wa.heap.size ≤ k) W2) (Frm.of_set _ _ _ (Or.inl rfl))) (Frm.of_set _ _ _ (Or.inl rfl))) ?_; clear hK K q1 r1 q2 r2
  obtain ⟨W3, hW3⟩ : ∃ W3, W3 = ((W2.setCell ⟨x, 1, none⟩ (.int .i64 ep)).setCell ⟨x, 2, none⟩ (.slice A2 N c2)) := ⟨_, rfl⟩
  have KX3 : Hid (Blk W3 x 80 #[.int .i64 n, .int .i64 ep, .slice A2 N c2, .int .i64 pr, .int .i64 pn, .int .i64 ar, .int .i64 an, .bool has, .int .i64 vep, .slice vA vns.length vc]) := by (show Blk _ _ _ _); rw [hW3]; exact ((KX2.out.set 1 (.int .i64 ep)).set 2 (.slice A2 N c2))
  have F3 : Hid (Frm (oneA x) W2 W3) := by (show Frm _ _ _); rw [hW3]; exact Frm.tr (Frm.tr (Frm.refl (oneA x) W2) (Frm.of_set _ _ _ rfl)) (Frm.of_set _ _ _ rfl)
  try rw [← hW3]
  clear hW3
  try simp only [Act.put, List.setIfInBounds_toArray, List.set_cons_zero, List.set_cons_succ]
  refine rz_done (by kernel_rfl) ?_ _
  clear z0_0 z0_1
  have q3 := KX3.out.frozen 3
  have r3 := KX3.out.cell 3
  have q4 := KX3.out.frozen 4
  have r4 := KX3.out.cell 4
  have q5 := KX3.out.frozen 5
  have r5 := KX3.out.cell 5
  have q6 := KX3.out.frozen 6
  have r6 := KX3.out.cell 6
  have q7 := KX3.out.frozen 7
  have r7 := KX3.out.cell 7
  have q8 := KX3.out.frozen 8
  have r8 := KX3.out.cell 8
  have q9 := KX3.out.frozen 9
  have r9 := KX3.out.cell 9
  simp at r3 r4 r5 r6 r7 r8 r9
  go_wp2_with fail
  try go_ret
  obtain ⟨W4, hW4⟩ : ∃ W4, W4 = (((((((W3.setCell ⟨x, 3, none⟩ (.int .i64 0)).setCell ⟨x, 4, none⟩ (.int .i64 0)).setCell ⟨x, 5, none⟩ (.int .i64 0)).setCell ⟨x, 6, none⟩ (.int .i64 0)).setCell ⟨x, 7, none⟩ (.bool false)).setCell ⟨x, 8, none⟩ (.int .i64 0)).setCell ⟨x, 9, none⟩ (.slice none 0 0)) := ⟨_, rfl⟩
  have KX4 : Blk W4 x 80 #[.int .i64 n, .int .i64 ep, .slice A2 N c2, .int .i64 0, .int .i64 0, .int .i64 0, .int .i64 0, .bool false, .int .i64 0, .slice none 0 0] := by rw [hW4]; exact (((((((KX3.out.set 3 (.int .i64 0)).set 4 (.int .i64 0)).set 5 (.int .i64 0)).set 6 (.int .i64 0)).set 7 (.bool false)).set 8 (.int .i64 0)).set 9 (.slice none 0 0))
  have F4 : Frm (oneA x) W2 W4 := by rw [hW4]; exact Frm.tr F3.out (Frm.tr (Frm.tr (Frm.tr (Frm.tr (Frm.tr (Frm.tr (Frm.tr (Frm.refl (oneA x) W3) (Frm.of_set _ _ _ rfl)) (Frm.of_set _ _ _ rfl)) (Frm.of_set _ _ _ rfl)) (Frm.of_set _ _ _ rfl)) (Frm.of_set _ _ _ rfl)) (Frm.of_set _ _ _ rfl)) (Frm.of_set _ _ _ rfl))
  try rw [← hW4]
  clear hW4
  have XA2 : XAt W2 x ⟨n, kep, kns, pr, pn, ar, an, has, vep, vns⟩ := XAa.out.stay X2.out
  refine hD.out _ _ ⟨rfl, ⟨A2, c2, none, 0, by unfold acells; simp only []; rw [← HNN.out]; exact KX4, XA2.in_ IN2.out F4, In.nil _⟩, Frm.tr (Frm.of_below (Ext.trans (Ext.trans X0.out EX.out) X2.out) _) F4⟩

theorem racc_any (x : Nat) (v : AV) (ep br bn : Int) (A : Option Addr) (cap : Nat) (l : List Int) (veto : Bool) (w : World) (H : XAt w x v) (K : AOk v) (hl : l.length ≤ 1000000) (hs : Sl i64 w A l) (hb1 : -9223372036854775808 ≤ ep ∧ ep ≤ 9223372036854775807) :
    Calls Try.prog 40 #[.pointer (some ⟨x, 0, none⟩), .agg #[.int .i64 ep, .slice A l.length cap], .agg #[.int .i64 br, .int .i64 bn], .bool veto] w fun e w' => e = .returned (.int .i64 (accE v ep l br bn veto)) ∧ XAt w' x (accV v ep l br bn veto) ∧ Frm (oneA x) w w' := by
  have kb := K.kb
  have kl := K.kl
  obtain ⟨n, kep, kns, pr, pn, ar, an, has, vep, vns⟩ := v
  simp only at kb kl
  have no : ∀ e0 : Int, ¬ e0 = 0 → accE ⟨n, kep, kns, pr, pn, ar, an, has, vep, vns⟩ ep l br bn veto = e0 → Calls Try.prog 40 #[.pointer (some ⟨x, 0, none⟩), .agg #[.int .i64 ep, .slice A l.length cap], .agg #[.int .i64 br, .int .i64 bn], .bool veto] w (fun e w' => e = .returned (.int .i64 e0) ∧ Ext w w') → Calls Try.prog 40 #[.pointer (some ⟨x, 0, none⟩), .agg #[.int .i64 ep, .slice A l.length cap], .agg #[.int .i64 br, .int .i64 bn], .bool veto] w fun e w' => e = .returned (.int .i64 (accE ⟨n, kep, kns, pr, pn, ar, an, has, vep, vns⟩ ep l br bn veto)) ∧ XAt w' x (accV ⟨n, kep, kns, pr, pn, ar, an, has, vep, vns⟩ ep l br bn veto) ∧ Frm (oneA x) w w' := by
    intro e0 hne hE hc
    have hV : accV ⟨n, kep, kns, pr, pn, ar, an, has, vep, vns⟩ ep l br bn veto = ⟨n, kep, kns, pr, pn, ar, an, has, vep, vns⟩ := by unfold accV; rw [if_neg (by rw [hE]; exact hne)]
    rw [hV, hE]
    exact hc.mono fun e w' ⟨h1, h2⟩ => ⟨h1, H.stay h2, Frm.of_below h2 _⟩
  cases hm : mayBal br bn with
  | false => exact no 1 (by decide) (by unfold accE; simp [hm, firstI]) (racc_1 x n kep kns pr pn ar an has vep vns ep br bn A cap l veto w H hl hs hb1 kb kl hm)
  | true =>
    cases hc : mayChainB ep l with
    | false => exact no 1 (by decide) (by unfold accE; simp [hm, hc, firstI]) (racc_1c x n kep kns pr pn ar an has vep vns ep br bn A cap l veto w H hl hs hb1 kb kl hm hc)
    | true =>
      by_cases h2 : ep ≤ kep
      · exact no 7 (by decide) (by unfold accE; simp [hm, hc, firstI, h2]) (racc_2 x n kep kns pr pn ar an has vep vns ep br bn A cap l veto w H hl hs hb1 kb kl hm hc h2)
      · by_cases h3 : ep = kep + 1
        · cases h5 : nextB kep ep kns l n with
          | false => exact no 1 (by decide) (by unfold accE; simp only [hm, hc, h5, decide_eq_true h3, decide_eq_false h2]; simp [firstI]) (racc_4 x n kep kns pr pn ar an has vep vns ep br bn A cap l veto w H hl hs hb1 kb kl hm hc h3 h5)
          | true =>
            by_cases h6 : cmpBal br bn pr pn < 0
            · exact no 7 (by decide) (by unfold accE; simp only [hm, hc, h5, decide_eq_true h3, decide_eq_false h2, decide_eq_true h6]; simp [firstI]) (racc_5 x n kep kns pr pn ar an has vep vns ep br bn A cap l veto w H hl hs hb1 kb kl hm hc h3 h5 h6)
            · cases hv : veto with
              | true =>
                rw [hv] at no
                exact no 8 (by decide) (by unfold accE; simp only [hm, hc, h5, decide_eq_true h3, decide_eq_false h2, decide_eq_false h6]; simp [firstI]) (racc_6 x n kep kns pr pn ar an has vep vns ep br bn A cap l true w H hl hs hb1 kb kl hm hc h3 h5 h6 rfl)
              | false =>
                have h : accE ⟨n, kep, kns, pr, pn, ar, an, has, vep, vns⟩ ep l br bn false = 0 := by unfold accE; simp only [hm, hc, h5, decide_eq_true h3, decide_eq_false h2, decide_eq_false h6]; simp [firstI]
                have hV : accV ⟨n, kep, kns, pr, pn, ar, an, has, vep, vns⟩ ep l br bn false = ⟨n, kep, kns, br, bn, br, bn, true, ep, l⟩ := by unfold accV; rw [if_pos h]
                rw [hV, h]
                exact racc_ok x n kep kns pr pn ar an has vep vns ep br bn A cap l false w H hl hs hb1 kb kl hm hc h3 h5 h6 rfl
        · exact no 4 (by decide) (by unfold accE; simp [hm, hc, firstI, h2, h3]) (racc_3 x n kep kns pr pn ar an has vep vns ep br bn A cap l veto w H hl hs hb1 kb kl hm hc (by omega) h3)
theorem rlearn_any (x : Nat) (v : AV) (ep : Int) (A : Option Addr) (cap : Nat) (l : List Int) (w : World) (H : XAt w x v) (K : AOk v) (hl : l.length ≤ 1000000) (hs : Sl i64 w A l) (hb1 : -9223372036854775808 ≤ ep ∧ ep ≤ 9223372036854775807) :
    Calls Try.prog 41 #[.pointer (some ⟨x, 0, none⟩), .agg #[.int .i64 ep, .slice A l.length cap]] w fun e w' => e = .returned (.int .i64 (learnE v ep l)) ∧ XAt w' x (learnV v ep l) ∧ Frm (oneA x) w w' := by
  have kb := K.kb
  have kl := K.kl
  obtain ⟨n, kep, kns, pr, pn, ar, an, has, vep, vns⟩ := v
  simp only at kb kl
  have no : ∀ e0 : Int, ¬ e0 = 0 → learnE ⟨n, kep, kns, pr, pn, ar, an, has, vep, vns⟩ ep l = e0 → Calls Try.prog 41 #[.pointer (some ⟨x, 0, none⟩), .agg #[.int .i64 ep, .slice A l.length cap]] w (fun e w' => e = .returned (.int .i64 e0) ∧ Ext w w') → Calls Try.prog 41 #[.pointer (some ⟨x, 0, none⟩), .agg #[.int .i64 ep, .slice A l.length cap]] w fun e w' => e = .returned (.int .i64 (learnE ⟨n, kep, kns, pr, pn, ar, an, has, vep, vns⟩ ep l)) ∧ XAt w' x (learnV ⟨n, kep, kns, pr, pn, ar, an, has, vep, vns⟩ ep l) ∧ Frm (oneA x) w w' := by
    intro e0 hne hE hc
    have hV : learnV ⟨n, kep, kns, pr, pn, ar, an, has, vep, vns⟩ ep l = ⟨n, kep, kns, pr, pn, ar, an, has, vep, vns⟩ := by unfold learnV; rw [if_neg (by rw [hE]; exact hne)]
    rw [hV, hE]
    exact hc.mono fun e w' ⟨h1, h2⟩ => ⟨h1, H.stay h2, Frm.of_below h2 _⟩
  cases hc : mayChainB ep l with
  | false => exact no 1 (by decide) (by unfold learnE; simp [hc, firstI]) (rlearn_1 x n kep kns pr pn ar an has vep vns ep A cap l w H hl hs hb1 kb kl hc)
  | true =>
    cases h5 : l.any (badB n) with
    | true => exact no 1 (by decide) (by unfold learnE; simp only [hc, h5]; simp [firstI]) (rlearn_1b x n kep kns pr pn ar an has vep vns ep A cap l w H hl hs hb1 kb kl hc h5)
    | false =>
      by_cases h2 : ep ≤ kep
      · exact no 7 (by decide) (by unfold learnE; simp only [hc, h5, decide_eq_true h2]; simp [firstI]) (rlearn_2 x n kep kns pr pn ar an has vep vns ep A cap l w H hl hs hb1 kb kl hc h5 h2)
      · have h : learnE ⟨n, kep, kns, pr, pn, ar, an, has, vep, vns⟩ ep l = 0 := by unfold learnE; simp only [hc, h5, decide_eq_false h2]; simp [firstI]
        have hV : learnV ⟨n, kep, kns, pr, pn, ar, an, has, vep, vns⟩ ep l = ⟨n, ep, l, 0, 0, 0, 0, false, 0, []⟩ := by unfold learnV; rw [if_pos h]
        rw [hV, h]
        exact rlearn_ok x n kep kns pr pn ar an has vep vns ep A cap l w H hl hs hb1 kb kl hc h5 (by omega)


end Go.Proofs.Ytkdcbidbciognaa
