/-
  The document's acceptor (law 13): Prepare, Accept, Learn.
-/
import Derived.Test.YtkdcbidbciognaaAccStep
import Derived.Test.YtkdcbidbciognaaM2
import Derived.Deep.Cut
namespace Go.Proofs.Ytkdcbidbciognaa
set_option linter.unusedVariables false
set_option linter.unusedSimpArgs false
open Go.RowKit

def XAt (w : World) (a : Nat) (v : AV) : Prop := ∃ kA kc vA vc, Blk w a 80 (acells v kA kc vA vc) ∧ In w kA kc v.kns ∧ In w vA vc v.vns
theorem XAt.lt {w : World} {a : Nat} {v : AV} (h : XAt w a v) : a < w.heap.size := by obtain ⟨_, _, _, _, h, _⟩ := h; exact h.lt
theorem XAt.stay {w w' : World} {a : Nat} {v : AV} (h : XAt w a v) (hx : Ext w w') : XAt w' a v := by
  obtain ⟨kA, kc, vA, vc, h1, h2, h3⟩ := h
  exact ⟨kA, kc, vA, vc, h1.stay hx, h2.stay hx, h3.stay hx⟩
theorem XAt.frm {s : Nat → Prop} {w w' : World} {a : Nat} {v : AV} (h : XAt w a v) (hf : Frm s w w') (ha : ¬ s a) (hs : ∀ g cs, Blk w g 3 cs → ¬ s g) : XAt w' a v := by
  obtain ⟨kA, kc, vA, vc, h1, h2, h3⟩ := h
  exact ⟨kA, kc, vA, vc, h1.frm hf ha, h2.frm hf hs, h3.frm hf hs⟩
theorem XAt.ne {w : World} {x g : Nat} {v : AV} {t : TypeId} {cs : Array Value} (h : XAt w x v) (hb : Blk w g t cs) (ht : t ≠ 80) : ¬ g = x := by
  obtain ⟨_, _, _, _, h1, _⟩ := h
  exact Blk.apart hb h1 ht
theorem XAt.in_ {w w' : World} {x cap : Nat} {A : Option Addr} {ns : List Int} {v : AV} (h' : XAt w x v) (h : In w A cap ns) (hf : Frm (oneA x) w w') : In w' A cap ns :=
  h.frm hf (fun g cs hb => h'.ne hb (by decide))
theorem AAt.x {w w' : World} {a x : Nat} {v v' : AV} (h : AAt w a v) (h' : XAt w x v') (hf : Frm (oneA x) w w') : AAt w' a v := by
  have hh := h
  obtain ⟨_, _, _, _, h1, _⟩ := hh
  exact h.frm hf (fun e => h'.ne h1 (by decide) e) (fun g cs hb => h'.ne hb (by decide))
theorem XAt.a {w w' : World} {a x : Nat} {v v' : AV} (h : XAt w x v') (h' : AAt w a v) (hf : Frm (oneA a) w w') : XAt w' x v' := by
  obtain ⟨_, _, _, _, h1, _⟩ := h'
  have hh := h
  obtain ⟨_, _, _, _, h2, _⟩ := hh
  exact h.frm hf (Blk.apart h2 h1 (by decide)) (fun g cs hb => Blk.apart hb h1 (by decide))

set_option maxRecDepth 8000 in
set_option maxHeartbeats 8000000 in
theorem rprep_1 (x : Nat) (n kep : Int) (kns : List Int) (pr pn ar an : Int) (has : Bool) (vep : Int) (vns : List Int) (ep br bn : Int) (w : World) (H : XAt w x ⟨n, kep, kns, pr, pn, ar, an, has, vep, vns⟩) (hb1 : -9223372036854775808 ≤ ep ∧ ep ≤ 9223372036854775807) (hk0 : 0 ≤ kep ∧ kep ≤ 1073741824) (hm : mayBal br bn = false) :
    Calls Try.prog 39 #[.pointer (some ⟨x, 0, none⟩), .int .i64 ep, .agg #[.int .i64 br, .int .i64 bn]] w fun e w' => e = .returned (.tuple #[.agg #[.int .i64 0, .int .i64 0, .int .i64 0, .int .i64 0, .bool false, .int .i64 0, .slice none 0 0], .int .i64 1]) ∧ Ext w w' := by
  refine hide_post fun D hD => ?_
  have hlt := H.lt
  have HX := Lib.hid H
  obtain ⟨kA, kc, vA, vc, kB, hk, hv⟩ := H
  simp only at hk hv
  obtain ⟨w0, hw0⟩ : ∃ w0, w0 = (w.alloc (.cells #[.int .i64 br, .int .i64 bn] 23)).alloc (.cells #[.int .i64 0, .int .i64 0, .int .i64 0, .int .i64 0, .bool false, .int .i64 0, .slice none 0 0] 40) := ⟨_, rfl⟩
  have hb0 : Ext w w0 := by rw [hw0]; exact Ext.trans (ext_al _ _) (ext_al _ _)
  have KBB : Hid (Blk w0 w.heap.size 23 #[.int .i64 br, .int .i64 bn]) := by show Blk _ _ _ _; rw [hw0]; exact (Blk.new _ _ _).alloc _
  have KR : Hid (Blk w0 (w.heap.size + 1) 40 #[.int .i64 0, .int .i64 0, .int .i64 0, .int .i64 0, .bool false, .int .i64 0, .slice none 0 0]) := by show Blk _ _ _ _; rw [hw0]; exact Blk.new' _ _ _ _ (by simp)
  have hz0 : w0.heap.size = w.heap.size + 2 := by rw [hw0]; simp
  have CM : Hid (∀ V, Calls Try.prog 13 #[.agg #[.int .i64 br, .int .i64 bn]] V fun e w' => e = .returned (.bool false) ∧ Ext V w') := fun V => by rw [← hm]; exact refMayBal_any br bn V
  have y1 : ∀ V, Ext w0 V → V.cell? ⟨x, 1, none⟩ = some (.int .i64 kep) := fun V h => ((kB.stay hb0).stay h).cell 1
  have y2 : ∀ V, Ext w0 V → V.cell? ⟨x, 2, none⟩ = some (.slice kA kns.length kc) := fun V h => ((kB.stay hb0).stay h).cell 2
  have y3 : ∀ V, Ext w0 V → V.cell? ⟨x, 3, none⟩ = some (.int .i64 pr) := fun V h => ((kB.stay hb0).stay h).cell 3
  have y4 : ∀ V, Ext w0 V → V.cell? ⟨x, 4, none⟩ = some (.int .i64 pn) := fun V h => ((kB.stay hb0).stay h).cell 4
  have y5 : ∀ V, Ext w0 V → V.cell? ⟨x, 5, none⟩ = some (.int .i64 ar) := fun V h => ((kB.stay hb0).stay h).cell 5
  have y6 : ∀ V, Ext w0 V → V.cell? ⟨x, 6, none⟩ = some (.int .i64 an) := fun V h => ((kB.stay hb0).stay h).cell 6
  have y7 : ∀ V, Ext w0 V → V.cell? ⟨x, 7, none⟩ = some (.bool has) := fun V h => ((kB.stay hb0).stay h).cell 7
  have y8 : ∀ V, Ext w0 V → V.cell? ⟨x, 8, none⟩ = some (.int .i64 vep) := fun V h => ((kB.stay hb0).stay h).cell 8
  have y9 : ∀ V, Ext w0 V → V.cell? ⟨x, 9, none⟩ = some (.slice vA vns.length vc) := fun V h => ((kB.stay hb0).stay h).cell 9
  have z0 : ∀ V, Ext w0 V → V.cell? ⟨w.heap.size, 0, none⟩ = some (.int .i64 br) := fun V h => (KBB.out.stay h).cell 0
  have z1 : ∀ V, Ext w0 V → V.cell? ⟨w.heap.size, 1, none⟩ = some (.int .i64 bn) := fun V h => (KBB.out.stay h).cell 1
  have KBW := Lib.hid kB
  have HK := Lib.hid hk
  have HV := Lib.hid hv
  have HW := Lib.hid hw0
  have X0 := Lib.hid hb0
  have HZ0 := Lib.hid hz0
  have HLT := Lib.hid hlt
  clear hb0 hw0 hz0 hk hv kB hm
  clear hk0
  go_enter Try.func39, Try.ntmps39
  go_wp2_with (go_at_call 13; rw [← HW.out]; (with_reducible refine (CM.out _).mono ?_); rintro e w1 ⟨rfl, hx⟩; have E1 : Hid (Ext w0 w1) := hx; have a1 := y1 w1 hx; have a2 := y2 w1 hx; have a3 := y3 w1 hx; have a4 := y4 w1 hx; have a5 := y5 w1 hx; have a6 := y6 w1 hx; have a7 := y7 w1 hx; have a8 := y8 w1 hx; have a9 := y9 w1 hx; have b0 := z0 w1 hx; have b1 := z1 w1 hx; have rc0 := (KR.out.stay hx).cell 0; have rf0 := (KR.out.stay hx).frozen 0; have rc1 := (KR.out.stay hx).cell 1; have rf1 := (KR.out.stay hx).frozen 1; have rc2 := (KR.out.stay hx).cell 2; have rf2 := (KR.out.stay hx).frozen 2; have rc3 := (KR.out.stay hx).cell 3; have rf3 := (KR.out.stay hx).frozen 3; have rc4 := (KR.out.stay hx).cell 4; have rf4 := (KR.out.stay hx).frozen 4; have rc5 := (KR.out.stay hx).cell 5; have rf5 := (KR.out.stay hx).frozen 5; have rc6 := (KR.out.stay hx).cell 6; have rf6 := (KR.out.stay hx).frozen 6; simp at rc0 rc1 rc2 rc3 rc4 rc5 rc6; clear hx)
  have KA := ((((((((KR.out.stay E1.out).set 0 (.int .i64 0)).set 1 (.int .i64 0)).set 2 (.int .i64 0)).set 3 (.int .i64 0)).set 4 (.bool false)).set 5 (.int .i64 0)).set 6 (.slice none 0 0))
  have hc0 := KA.cell 0
  have hc1 := KA.cell 1
  have hc2 := KA.cell 2
  have hc3 := KA.cell 3
  have hc4 := KA.cell 4
  have hc5 := KA.cell 5
  have hc6 := KA.cell 6
  have hE := hD.out (.returned (.tuple #[.agg #[.int .i64 0, .int .i64 0, .int .i64 0, .int .i64 0, .bool false, .int .i64 0, .slice none 0 0], .int .i64 1])) _ ⟨rfl, Frm.step (Ext.trans X0.out E1.out) (Frm.tr (Frm.tr (Frm.tr (Frm.tr (Frm.tr (Frm.tr (Frm.tr (Frm.refl (fun k => k = (w.heap.size + 1)) w1) (Frm.of_set _ ⟨(w.heap.size + 1), 0, none⟩ (.int .i64 0) rfl)) (Frm.of_set _ ⟨(w.heap.size + 1), 1, none⟩ (.int .i64 0) rfl)) (Frm.of_set _ ⟨(w.heap.size + 1), 2, none⟩ (.int .i64 0) rfl)) (Frm.of_set _ ⟨(w.heap.size + 1), 3, none⟩ (.int .i64 0) rfl)) (Frm.of_set _ ⟨(w.heap.size + 1), 4, none⟩ (.bool false) rfl)) (Frm.of_set _ ⟨(w.heap.size + 1), 5, none⟩ (.int .i64 0) rfl)) (Frm.of_set _ ⟨(w.heap.size + 1), 6, none⟩ (.slice none 0 0) rfl)) (Ext.trans X0.out E1.out).size (by rintro k rfl; omega)⟩
  exact bodyPost_ret (v := .tuple #[.agg #[.int .i64 0, .int .i64 0, .int .i64 0, .int .i64 0, .bool false, .int .i64 0, .slice none 0 0], .int .i64 1]) (by simp [results, Try.results39, go_sem, hc0, hc1, hc2, hc3, hc4, hc5, hc6]) rfl hE

set_option maxRecDepth 8000 in
set_option maxHeartbeats 8000000 in
theorem rprep_2 (x : Nat) (n kep : Int) (kns : List Int) (pr pn ar an : Int) (has : Bool) (vep : Int) (vns : List Int) (ep br bn : Int) (w : World) (H : XAt w x ⟨n, kep, kns, pr, pn, ar, an, has, vep, vns⟩) (hb1 : -9223372036854775808 ≤ ep ∧ ep ≤ 9223372036854775807) (hk0 : 0 ≤ kep ∧ kep ≤ 1073741824) (hm : mayBal br bn = true) (h2 : ep ≤ kep) :
    Calls Try.prog 39 #[.pointer (some ⟨x, 0, none⟩), .int .i64 ep, .agg #[.int .i64 br, .int .i64 bn]] w fun e w' => e = .returned (.tuple #[.agg #[.int .i64 0, .int .i64 0, .int .i64 0, .int .i64 0, .bool false, .int .i64 0, .slice none 0 0], .int .i64 7]) ∧ Ext w w' := by
  refine hide_post fun D hD => ?_
  have hlt := H.lt
  have HX := Lib.hid H
  obtain ⟨kA, kc, vA, vc, kB, hk, hv⟩ := H
  simp only at hk hv
  obtain ⟨w0, hw0⟩ : ∃ w0, w0 = (w.alloc (.cells #[.int .i64 br, .int .i64 bn] 23)).alloc (.cells #[.int .i64 0, .int .i64 0, .int .i64 0, .int .i64 0, .bool false, .int .i64 0, .slice none 0 0] 40) := ⟨_, rfl⟩
  have hb0 : Ext w w0 := by rw [hw0]; exact Ext.trans (ext_al _ _) (ext_al _ _)
  have KBB : Hid (Blk w0 w.heap.size 23 #[.int .i64 br, .int .i64 bn]) := by show Blk _ _ _ _; rw [hw0]; exact (Blk.new _ _ _).alloc _
  have KR : Hid (Blk w0 (w.heap.size + 1) 40 #[.int .i64 0, .int .i64 0, .int .i64 0, .int .i64 0, .bool false, .int .i64 0, .slice none 0 0]) := by show Blk _ _ _ _; rw [hw0]; exact Blk.new' _ _ _ _ (by simp)
  have hz0 : w0.heap.size = w.heap.size + 2 := by rw [hw0]; simp
  have CM : Hid (∀ V, Calls Try.prog 13 #[.agg #[.int .i64 br, .int .i64 bn]] V fun e w' => e = .returned (.bool true) ∧ Ext V w') := fun V => by rw [← hm]; exact refMayBal_any br bn V
  have y1 : ∀ V, Ext w0 V → V.cell? ⟨x, 1, none⟩ = some (.int .i64 kep) := fun V h => ((kB.stay hb0).stay h).cell 1
  have y2 : ∀ V, Ext w0 V → V.cell? ⟨x, 2, none⟩ = some (.slice kA kns.length kc) := fun V h => ((kB.stay hb0).stay h).cell 2
  have y3 : ∀ V, Ext w0 V → V.cell? ⟨x, 3, none⟩ = some (.int .i64 pr) := fun V h => ((kB.stay hb0).stay h).cell 3
  have y4 : ∀ V, Ext w0 V → V.cell? ⟨x, 4, none⟩ = some (.int .i64 pn) := fun V h => ((kB.stay hb0).stay h).cell 4
  have y5 : ∀ V, Ext w0 V → V.cell? ⟨x, 5, none⟩ = some (.int .i64 ar) := fun V h => ((kB.stay hb0).stay h).cell 5
  have y6 : ∀ V, Ext w0 V → V.cell? ⟨x, 6, none⟩ = some (.int .i64 an) := fun V h => ((kB.stay hb0).stay h).cell 6
  have y7 : ∀ V, Ext w0 V → V.cell? ⟨x, 7, none⟩ = some (.bool has) := fun V h => ((kB.stay hb0).stay h).cell 7
  have y8 : ∀ V, Ext w0 V → V.cell? ⟨x, 8, none⟩ = some (.int .i64 vep) := fun V h => ((kB.stay hb0).stay h).cell 8
  have y9 : ∀ V, Ext w0 V → V.cell? ⟨x, 9, none⟩ = some (.slice vA vns.length vc) := fun V h => ((kB.stay hb0).stay h).cell 9
  have z0 : ∀ V, Ext w0 V → V.cell? ⟨w.heap.size, 0, none⟩ = some (.int .i64 br) := fun V h => (KBB.out.stay h).cell 0
  have z1 : ∀ V, Ext w0 V → V.cell? ⟨w.heap.size, 1, none⟩ = some (.int .i64 bn) := fun V h => (KBB.out.stay h).cell 1
  have KBW := Lib.hid kB
  have HK := Lib.hid hk
  have HV := Lib.hid hv
  have HW := Lib.hid hw0
  have X0 := Lib.hid hb0
  have HZ0 := Lib.hid hz0
  have HLT := Lib.hid hlt
  clear hb0 hw0 hz0 hk hv kB hm
  go_enter Try.func39, Try.ntmps39
  go_wp2_with (go_at_call 13; rw [← HW.out]; (with_reducible refine (CM.out _).mono ?_); rintro e w1 ⟨rfl, hx⟩; have E1 : Hid (Ext w0 w1) := hx; have a1 := y1 w1 hx; have a2 := y2 w1 hx; have a3 := y3 w1 hx; have a4 := y4 w1 hx; have a5 := y5 w1 hx; have a6 := y6 w1 hx; have a7 := y7 w1 hx; have a8 := y8 w1 hx; have a9 := y9 w1 hx; have b0 := z0 w1 hx; have b1 := z1 w1 hx; have rc0 := (KR.out.stay hx).cell 0; have rf0 := (KR.out.stay hx).frozen 0; have rc1 := (KR.out.stay hx).cell 1; have rf1 := (KR.out.stay hx).frozen 1; have rc2 := (KR.out.stay hx).cell 2; have rf2 := (KR.out.stay hx).frozen 2; have rc3 := (KR.out.stay hx).cell 3; have rf3 := (KR.out.stay hx).frozen 3; have rc4 := (KR.out.stay hx).cell 4; have rf4 := (KR.out.stay hx).frozen 4; have rc5 := (KR.out.stay hx).cell 5; have rf5 := (KR.out.stay hx).frozen 5; have rc6 := (KR.out.stay hx).cell 6; have rf6 := (KR.out.stay hx).frozen 6; simp at rc0 rc1 rc2 rc3 rc4 rc5 rc6; clear hx)
  have KA := ((((((((KR.out.stay E1.out).set 0 (.int .i64 0)).set 1 (.int .i64 0)).set 2 (.int .i64 0)).set 3 (.int .i64 0)).set 4 (.bool false)).set 5 (.int .i64 0)).set 6 (.slice none 0 0))
  have hc0 := KA.cell 0
  have hc1 := KA.cell 1
  have hc2 := KA.cell 2
  have hc3 := KA.cell 3
  have hc4 := KA.cell 4
  have hc5 := KA.cell 5
  have hc6 := KA.cell 6
  have hE := hD.out (.returned (.tuple #[.agg #[.int .i64 0, .int .i64 0, .int .i64 0, .int .i64 0, .bool false, .int .i64 0, .slice none 0 0], .int .i64 7])) _ ⟨rfl, Frm.step (Ext.trans X0.out E1.out) (Frm.tr (Frm.tr (Frm.tr (Frm.tr (Frm.tr (Frm.tr (Frm.tr (Frm.refl (fun k => k = (w.heap.size + 1)) w1) (Frm.of_set _ ⟨(w.heap.size + 1), 0, none⟩ (.int .i64 0) rfl)) (Frm.of_set _ ⟨(w.heap.size + 1), 1, none⟩ (.int .i64 0) rfl)) (Frm.of_set _ ⟨(w.heap.size + 1), 2, none⟩ (.int .i64 0) rfl)) (Frm.of_set _ ⟨(w.heap.size + 1), 3, none⟩ (.int .i64 0) rfl)) (Frm.of_set _ ⟨(w.heap.size + 1), 4, none⟩ (.bool false) rfl)) (Frm.of_set _ ⟨(w.heap.size + 1), 5, none⟩ (.int .i64 0) rfl)) (Frm.of_set _ ⟨(w.heap.size + 1), 6, none⟩ (.slice none 0 0) rfl)) (Ext.trans X0.out E1.out).size (by rintro k rfl; omega)⟩
  exact bodyPost_ret (v := .tuple #[.agg #[.int .i64 0, .int .i64 0, .int .i64 0, .int .i64 0, .bool false, .int .i64 0, .slice none 0 0], .int .i64 7]) (by simp [results, Try.results39, go_sem, hc0, hc1, hc2, hc3, hc4, hc5, hc6]) rfl hE

set_option maxRecDepth 8000 in
set_option maxHeartbeats 8000000 in
theorem rprep_3 (x : Nat) (n kep : Int) (kns : List Int) (pr pn ar an : Int) (has : Bool) (vep : Int) (vns : List Int) (ep br bn : Int) (w : World) (H : XAt w x ⟨n, kep, kns, pr, pn, ar, an, has, vep, vns⟩) (hb1 : -9223372036854775808 ≤ ep ∧ ep ≤ 9223372036854775807) (hk0 : 0 ≤ kep ∧ kep ≤ 1073741824) (hm : mayBal br bn = true) (h2 : kep < ep) (h3 : ¬ ep = kep + 1) :
    Calls Try.prog 39 #[.pointer (some ⟨x, 0, none⟩), .int .i64 ep, .agg #[.int .i64 br, .int .i64 bn]] w fun e w' => e = .returned (.tuple #[.agg #[.int .i64 0, .int .i64 0, .int .i64 0, .int .i64 0, .bool false, .int .i64 0, .slice none 0 0], .int .i64 4]) ∧ Ext w w' := by
  refine hide_post fun D hD => ?_
  have hlt := H.lt
  have HX := Lib.hid H
  obtain ⟨kA, kc, vA, vc, kB, hk, hv⟩ := H
  simp only at hk hv
  obtain ⟨w0, hw0⟩ : ∃ w0, w0 = (w.alloc (.cells #[.int .i64 br, .int .i64 bn] 23)).alloc (.cells #[.int .i64 0, .int .i64 0, .int .i64 0, .int .i64 0, .bool false, .int .i64 0, .slice none 0 0] 40) := ⟨_, rfl⟩
  have hb0 : Ext w w0 := by rw [hw0]; exact Ext.trans (ext_al _ _) (ext_al _ _)
  have KBB : Hid (Blk w0 w.heap.size 23 #[.int .i64 br, .int .i64 bn]) := by show Blk _ _ _ _; rw [hw0]; exact (Blk.new _ _ _).alloc _
  have KR : Hid (Blk w0 (w.heap.size + 1) 40 #[.int .i64 0, .int .i64 0, .int .i64 0, .int .i64 0, .bool false, .int .i64 0, .slice none 0 0]) := by show Blk _ _ _ _; rw [hw0]; exact Blk.new' _ _ _ _ (by simp)
  have hz0 : w0.heap.size = w.heap.size + 2 := by rw [hw0]; simp
  have CM : Hid (∀ V, Calls Try.prog 13 #[.agg #[.int .i64 br, .int .i64 bn]] V fun e w' => e = .returned (.bool true) ∧ Ext V w') := fun V => by rw [← hm]; exact refMayBal_any br bn V
  have hle : ¬ ep ≤ kep := by omega
  have hsub : wrap64 (ep - 1) = ep - 1 := by unfold wrap64; omega
  have hne : ¬ ep - 1 = kep := by omega
  have y1 : ∀ V, Ext w0 V → V.cell? ⟨x, 1, none⟩ = some (.int .i64 kep) := fun V h => ((kB.stay hb0).stay h).cell 1
  have y2 : ∀ V, Ext w0 V → V.cell? ⟨x, 2, none⟩ = some (.slice kA kns.length kc) := fun V h => ((kB.stay hb0).stay h).cell 2
  have y3 : ∀ V, Ext w0 V → V.cell? ⟨x, 3, none⟩ = some (.int .i64 pr) := fun V h => ((kB.stay hb0).stay h).cell 3
  have y4 : ∀ V, Ext w0 V → V.cell? ⟨x, 4, none⟩ = some (.int .i64 pn) := fun V h => ((kB.stay hb0).stay h).cell 4
  have y5 : ∀ V, Ext w0 V → V.cell? ⟨x, 5, none⟩ = some (.int .i64 ar) := fun V h => ((kB.stay hb0).stay h).cell 5
  have y6 : ∀ V, Ext w0 V → V.cell? ⟨x, 6, none⟩ = some (.int .i64 an) := fun V h => ((kB.stay hb0).stay h).cell 6
  have y7 : ∀ V, Ext w0 V → V.cell? ⟨x, 7, none⟩ = some (.bool has) := fun V h => ((kB.stay hb0).stay h).cell 7
  have y8 : ∀ V, Ext w0 V → V.cell? ⟨x, 8, none⟩ = some (.int .i64 vep) := fun V h => ((kB.stay hb0).stay h).cell 8
  have y9 : ∀ V, Ext w0 V → V.cell? ⟨x, 9, none⟩ = some (.slice vA vns.length vc) := fun V h => ((kB.stay hb0).stay h).cell 9
  have z0 : ∀ V, Ext w0 V → V.cell? ⟨w.heap.size, 0, none⟩ = some (.int .i64 br) := fun V h => (KBB.out.stay h).cell 0
  have z1 : ∀ V, Ext w0 V → V.cell? ⟨w.heap.size, 1, none⟩ = some (.int .i64 bn) := fun V h => (KBB.out.stay h).cell 1
  have KBW := Lib.hid kB
  have HK := Lib.hid hk
  have HV := Lib.hid hv
  have HW := Lib.hid hw0
  have X0 := Lib.hid hb0
  have HZ0 := Lib.hid hz0
  have HLT := Lib.hid hlt
  clear hb0 hw0 hz0 hk hv kB hm
  go_enter Try.func39, Try.ntmps39
  go_wp2_with (go_at_call 13; rw [← HW.out]; (with_reducible refine (CM.out _).mono ?_); rintro e w1 ⟨rfl, hx⟩; have E1 : Hid (Ext w0 w1) := hx; have a1 := y1 w1 hx; have a2 := y2 w1 hx; have a3 := y3 w1 hx; have a4 := y4 w1 hx; have a5 := y5 w1 hx; have a6 := y6 w1 hx; have a7 := y7 w1 hx; have a8 := y8 w1 hx; have a9 := y9 w1 hx; have b0 := z0 w1 hx; have b1 := z1 w1 hx; have rc0 := (KR.out.stay hx).cell 0; have rf0 := (KR.out.stay hx).frozen 0; have rc1 := (KR.out.stay hx).cell 1; have rf1 := (KR.out.stay hx).frozen 1; have rc2 := (KR.out.stay hx).cell 2; have rf2 := (KR.out.stay hx).frozen 2; have rc3 := (KR.out.stay hx).cell 3; have rf3 := (KR.out.stay hx).frozen 3; have rc4 := (KR.out.stay hx).cell 4; have rf4 := (KR.out.stay hx).frozen 4; have rc5 := (KR.out.stay hx).cell 5; have rf5 := (KR.out.stay hx).frozen 5; have rc6 := (KR.out.stay hx).cell 6; have rf6 := (KR.out.stay hx).frozen 6; simp at rc0 rc1 rc2 rc3 rc4 rc5 rc6; clear hx)
  have KA := ((((((((KR.out.stay E1.out).set 0 (.int .i64 0)).set 1 (.int .i64 0)).set 2 (.int .i64 0)).set 3 (.int .i64 0)).set 4 (.bool false)).set 5 (.int .i64 0)).set 6 (.slice none 0 0))
  have hc0 := KA.cell 0
  have hc1 := KA.cell 1
  have hc2 := KA.cell 2
  have hc3 := KA.cell 3
  have hc4 := KA.cell 4
  have hc5 := KA.cell 5
  have hc6 := KA.cell 6
  have hE := hD.out (.returned (.tuple #[.agg #[.int .i64 0, .int .i64 0, .int .i64 0, .int .i64 0, .bool false, .int .i64 0, .slice none 0 0], .int .i64 4])) _ ⟨rfl, Frm.step (Ext.trans X0.out E1.out) (Frm.tr (Frm.tr (Frm.tr (Frm.tr (Frm.tr (Frm.tr (Frm.tr (Frm.refl (fun k => k = (w.heap.size + 1)) w1) (Frm.of_set _ ⟨(w.heap.size + 1), 0, none⟩ (.int .i64 0) rfl)) (Frm.of_set _ ⟨(w.heap.size + 1), 1, none⟩ (.int .i64 0) rfl)) (Frm.of_set _ ⟨(w.heap.size + 1), 2, none⟩ (.int .i64 0) rfl)) (Frm.of_set _ ⟨(w.heap.size + 1), 3, none⟩ (.int .i64 0) rfl)) (Frm.of_set _ ⟨(w.heap.size + 1), 4, none⟩ (.bool false) rfl)) (Frm.of_set _ ⟨(w.heap.size + 1), 5, none⟩ (.int .i64 0) rfl)) (Frm.of_set _ ⟨(w.heap.size + 1), 6, none⟩ (.slice none 0 0) rfl)) (Ext.trans X0.out E1.out).size (by rintro k rfl; omega)⟩
  exact bodyPost_ret (v := .tuple #[.agg #[.int .i64 0, .int .i64 0, .int .i64 0, .int .i64 0, .bool false, .int .i64 0, .slice none 0 0], .int .i64 4]) (by simp [results, Try.results39, go_sem, hc0, hc1, hc2, hc3, hc4, hc5, hc6]) rfl hE

set_option maxRecDepth 8000 in
set_option maxHeartbeats 8000000 in
theorem rprep_4 (x : Nat) (n kep : Int) (kns : List Int) (pr pn ar an : Int) (has : Bool) (vep : Int) (vns : List Int) (ep br bn : Int) (w : World) (H : XAt w x ⟨n, kep, kns, pr, pn, ar, an, has, vep, vns⟩) (hb1 : -9223372036854775808 ≤ ep ∧ ep ≤ 9223372036854775807) (hk0 : 0 ≤ kep ∧ kep ≤ 1073741824) (hm : mayBal br bn = true) (h3 : ep = kep + 1) (h4 : cmpBal br bn pr pn < 0) :
    Calls Try.prog 39 #[.pointer (some ⟨x, 0, none⟩), .int .i64 ep, .agg #[.int .i64 br, .int .i64 bn]] w fun e w' => e = .returned (.tuple #[.agg #[.int .i64 0, .int .i64 0, .int .i64 0, .int .i64 0, .bool false, .int .i64 0, .slice none 0 0], .int .i64 7]) ∧ Ext w w' := by
  refine hide_post fun D hD => ?_
  have hlt := H.lt
  have HX := Lib.hid H
  obtain ⟨kA, kc, vA, vc, kB, hk, hv⟩ := H
  simp only at hk hv
  obtain ⟨w0, hw0⟩ : ∃ w0, w0 = (w.alloc (.cells #[.int .i64 br, .int .i64 bn] 23)).alloc (.cells #[.int .i64 0, .int .i64 0, .int .i64 0, .int .i64 0, .bool false, .int .i64 0, .slice none 0 0] 40) := ⟨_, rfl⟩
  have hb0 : Ext w w0 := by rw [hw0]; exact Ext.trans (ext_al _ _) (ext_al _ _)
  have KBB : Hid (Blk w0 w.heap.size 23 #[.int .i64 br, .int .i64 bn]) := by show Blk _ _ _ _; rw [hw0]; exact (Blk.new _ _ _).alloc _
  have KR : Hid (Blk w0 (w.heap.size + 1) 40 #[.int .i64 0, .int .i64 0, .int .i64 0, .int .i64 0, .bool false, .int .i64 0, .slice none 0 0]) := by show Blk _ _ _ _; rw [hw0]; exact Blk.new' _ _ _ _ (by simp)
  have hz0 : w0.heap.size = w.heap.size + 2 := by rw [hw0]; simp
  have CM : Hid (∀ V, Calls Try.prog 13 #[.agg #[.int .i64 br, .int .i64 bn]] V fun e w' => e = .returned (.bool true) ∧ Ext V w') := fun V => by rw [← hm]; exact refMayBal_any br bn V
  have hle : ¬ ep ≤ kep := by omega
  have hsub : wrap64 (ep - 1) = kep := by unfold wrap64; omega
  have CC : Hid (∀ V, Calls Try.prog 34 #[.agg #[.int .i64 br, .int .i64 bn], .agg #[.int .i64 pr, .int .i64 pn]] V fun e w' => e = .returned (.int .i64 (cmpBal br bn pr pn)) ∧ Ext V w') := fun V => refCmp_any br bn pr pn V
  have y1 : ∀ V, Ext w0 V → V.cell? ⟨x, 1, none⟩ = some (.int .i64 kep) := fun V h => ((kB.stay hb0).stay h).cell 1
  have y2 : ∀ V, Ext w0 V → V.cell? ⟨x, 2, none⟩ = some (.slice kA kns.length kc) := fun V h => ((kB.stay hb0).stay h).cell 2
  have y3 : ∀ V, Ext w0 V → V.cell? ⟨x, 3, none⟩ = some (.int .i64 pr) := fun V h => ((kB.stay hb0).stay h).cell 3
  have y4 : ∀ V, Ext w0 V → V.cell? ⟨x, 4, none⟩ = some (.int .i64 pn) := fun V h => ((kB.stay hb0).stay h).cell 4
  have y5 : ∀ V, Ext w0 V → V.cell? ⟨x, 5, none⟩ = some (.int .i64 ar) := fun V h => ((kB.stay hb0).stay h).cell 5
  have y6 : ∀ V, Ext w0 V → V.cell? ⟨x, 6, none⟩ = some (.int .i64 an) := fun V h => ((kB.stay hb0).stay h).cell 6
  have y7 : ∀ V, Ext w0 V → V.cell? ⟨x, 7, none⟩ = some (.bool has) := fun V h => ((kB.stay hb0).stay h).cell 7
  have y8 : ∀ V, Ext w0 V → V.cell? ⟨x, 8, none⟩ = some (.int .i64 vep) := fun V h => ((kB.stay hb0).stay h).cell 8
  have y9 : ∀ V, Ext w0 V → V.cell? ⟨x, 9, none⟩ = some (.slice vA vns.length vc) := fun V h => ((kB.stay hb0).stay h).cell 9
  have z0 : ∀ V, Ext w0 V → V.cell? ⟨w.heap.size, 0, none⟩ = some (.int .i64 br) := fun V h => (KBB.out.stay h).cell 0
  have z1 : ∀ V, Ext w0 V → V.cell? ⟨w.heap.size, 1, none⟩ = some (.int .i64 bn) := fun V h => (KBB.out.stay h).cell 1
  have KBW := Lib.hid kB
  have HK := Lib.hid hk
  have HV := Lib.hid hv
  have HW := Lib.hid hw0
  have X0 := Lib.hid hb0
  have HZ0 := Lib.hid hz0
  have HLT := Lib.hid hlt
  clear hb0 hw0 hz0 hk hv kB hm
  generalize cmpBal br bn pr pn = cm at *
  go_enter Try.func39, Try.ntmps39
  go_upto_region 7 with (go_at_call 13; rw [← HW.out]; (with_reducible refine (CM.out _).mono ?_); rintro e w1 ⟨rfl, hx⟩; have E1 : Hid (Ext w0 w1) := hx; have a1 := y1 w1 hx; have a2 := y2 w1 hx; have a3 := y3 w1 hx; have a4 := y4 w1 hx; have a5 := y5 w1 hx; have a6 := y6 w1 hx; have a7 := y7 w1 hx; have a8 := y8 w1 hx; have a9 := y9 w1 hx; have b0 := z0 w1 hx; have b1 := z1 w1 hx; have rc0 := (KR.out.stay hx).cell 0; have rf0 := (KR.out.stay hx).frozen 0; have rc1 := (KR.out.stay hx).cell 1; have rf1 := (KR.out.stay hx).frozen 1; have rc2 := (KR.out.stay hx).cell 2; have rf2 := (KR.out.stay hx).frozen 2; have rc3 := (KR.out.stay hx).cell 3; have rf3 := (KR.out.stay hx).frozen 3; have rc4 := (KR.out.stay hx).cell 4; have rf4 := (KR.out.stay hx).frozen 4; have rc5 := (KR.out.stay hx).cell 5; have rf5 := (KR.out.stay hx).frozen 5; have rc6 := (KR.out.stay hx).cell 6; have rf6 := (KR.out.stay hx).frozen 6; simp at rc0 rc1 rc2 rc3 rc4 rc5 rc6; clear hx)
  clear a1 a2 a3 a4 a5 a6 a7 a8 a9 b0 b1 rc0 rf0 rc1 rf1 rc2 rf2 rc3 rf3 rc4 rf4 rc5 rf5 rc6 rf6
  refine ext_begin (by kernel_rfl) ?_
  have E1d := Lib.hid (Ext.drewR E1.out)
  refine ext_take (i := 0) (v := ?_) rfl (by kernel_rfl) (by kernel_rfl) (by kernel_rfl) (fun _ _ _ h => h) (by rfl) ?_ ?_
  rotate_left
  · intro W hW; have hW0 := Ext.trans E1d.out hW; clear hW; go_simp <;> with_reducible rfl
  try simp only [Act.put, List.setIfInBounds_toArray, List.set_cons_zero, List.set_cons_succ]
  refine ext_take (i := 1) (v := ?_) rfl (by kernel_rfl) (by kernel_rfl) (by kernel_rfl) (fun _ _ _ h => h) (by rfl) ?_ ?_
  rotate_left
  · intro W hW; have hW0 := Ext.trans E1d.out hW; clear hW; go_simp <;> with_reducible rfl
  try simp only [Act.put, List.setIfInBounds_toArray, List.set_cons_zero, List.set_cons_succ]
  refine ext_take (i := 2) (v := ?_) rfl (by kernel_rfl) (by kernel_rfl) (by kernel_rfl) (fun _ _ _ h => h) (by rfl) ?_ ?_
  rotate_left
  · intro W hW; have hW0 := Ext.trans E1d.out hW; clear hW; go_simp <;> with_reducible rfl
  try simp only [Act.put, List.setIfInBounds_toArray, List.set_cons_zero, List.set_cons_succ]
  refine ext_take (i := 3) (v := ?_) rfl (by kernel_rfl) (by kernel_rfl) (by kernel_rfl) (fun _ _ _ h => h) (by rfl) ?_ ?_
  rotate_left
  · intro W hW; have hW0 := Ext.trans E1d.out hW; clear hW; go_simp <;> with_reducible rfl
  try simp only [Act.put, List.setIfInBounds_toArray, List.set_cons_zero, List.set_cons_succ]
  refine ext_take (i := 4) (v := ?_) rfl (by kernel_rfl) (by kernel_rfl) (by kernel_rfl) (fun _ _ _ h => h) (by rfl) ?_ ?_
  rotate_left
  · intro W hW; have hW0 := Ext.trans E1d.out hW; clear hW; go_simp <;> with_reducible rfl
  try simp only [Act.put, List.setIfInBounds_toArray, List.set_cons_zero, List.set_cons_succ]
  refine ext_take (i := 5) (v := ?_) rfl (by kernel_rfl) (by kernel_rfl) (by kernel_rfl) (fun _ _ _ h => h) (by rfl) ?_ ?_
  rotate_left
  · intro W hW; have hW0 := Ext.trans E1d.out hW; clear hW; go_simp <;> with_reducible rfl
  try simp only [Act.put, List.setIfInBounds_toArray, List.set_cons_zero, List.set_cons_succ]
  refine ext_call (i := 6) rfl (by kernel_rfl) (by rfl) (fun K' hK => ?_)
  go_simp
  (go_at_call 34; (with_reducible refine (CC.out _).mono ?_); rintro e w2 ⟨rfl, hx⟩; refine hK _ _ hx ?_; clear hK)
  have Ew2 := Lib.hid (Ext.trans E1d.out hx)
  clear hx
  try simp only [Act.put, List.setIfInBounds_toArray, List.set_cons_zero, List.set_cons_succ]
  refine ext_take (i := 7) (v := ?_) rfl (by kernel_rfl) (by kernel_rfl) (by kernel_rfl) (fun _ _ _ h => h) (by rfl) ?_ ?_
  rotate_left
  · intro W hW; have hW0 := Ext.trans Ew2.out hW; clear hW; go_simp <;> with_reducible rfl
  try simp only [Act.put, List.setIfInBounds_toArray, List.set_cons_zero, List.set_cons_succ]
  refine ext_take (i := 8) (v := ?_) rfl (by kernel_rfl) (by kernel_rfl) (by kernel_rfl) (fun _ _ _ h => h) (by rfl) ?_ ?_
  rotate_left
  · intro W hW; have hW0 := Ext.trans Ew2.out hW; clear hW; go_simp <;> with_reducible rfl
  try simp only [Act.put, List.setIfInBounds_toArray, List.set_cons_zero, List.set_cons_succ]
  refine wpAnyH_done (by kernel_rfl) ?_ _
  have EX := Lib.hid Ew2.out
  clear Ew2 E1d y1 y2 y3 y4 y5 y6 y7 y8 y9 z0 z1
  have rc0 := (KR.out.stay EX.out).cell 0
  have rf0 := (KR.out.stay EX.out).frozen 0
  have rc1 := (KR.out.stay EX.out).cell 1
  have rf1 := (KR.out.stay EX.out).frozen 1
  have rc2 := (KR.out.stay EX.out).cell 2
  have rf2 := (KR.out.stay EX.out).frozen 2
  have rc3 := (KR.out.stay EX.out).cell 3
  have rf3 := (KR.out.stay EX.out).frozen 3
  have rc4 := (KR.out.stay EX.out).cell 4
  have rf4 := (KR.out.stay EX.out).frozen 4
  have rc5 := (KR.out.stay EX.out).cell 5
  have rf5 := (KR.out.stay EX.out).frozen 5
  have rc6 := (KR.out.stay EX.out).cell 6
  have rf6 := (KR.out.stay EX.out).frozen 6
  simp at rc0 rc1 rc2 rc3 rc4 rc5 rc6
  go_wp2_with fail
  have KA := ((((((((KR.out.stay EX.out).set 0 (.int .i64 0)).set 1 (.int .i64 0)).set 2 (.int .i64 0)).set 3 (.int .i64 0)).set 4 (.bool false)).set 5 (.int .i64 0)).set 6 (.slice none 0 0))
  have hc0 := KA.cell 0
  have hc1 := KA.cell 1
  have hc2 := KA.cell 2
  have hc3 := KA.cell 3
  have hc4 := KA.cell 4
  have hc5 := KA.cell 5
  have hc6 := KA.cell 6
  have hE := hD.out (.returned (.tuple #[.agg #[.int .i64 0, .int .i64 0, .int .i64 0, .int .i64 0, .bool false, .int .i64 0, .slice none 0 0], .int .i64 7])) _ ⟨rfl, Frm.step (Ext.trans X0.out EX.out) (Frm.tr (Frm.tr (Frm.tr (Frm.tr (Frm.tr (Frm.tr (Frm.tr (Frm.refl (fun k => k = (w.heap.size + 1)) w2) (Frm.of_set _ ⟨(w.heap.size + 1), 0, none⟩ (.int .i64 0) rfl)) (Frm.of_set _ ⟨(w.heap.size + 1), 1, none⟩ (.int .i64 0) rfl)) (Frm.of_set _ ⟨(w.heap.size + 1), 2, none⟩ (.int .i64 0) rfl)) (Frm.of_set _ ⟨(w.heap.size + 1), 3, none⟩ (.int .i64 0) rfl)) (Frm.of_set _ ⟨(w.heap.size + 1), 4, none⟩ (.bool false) rfl)) (Frm.of_set _ ⟨(w.heap.size + 1), 5, none⟩ (.int .i64 0) rfl)) (Frm.of_set _ ⟨(w.heap.size + 1), 6, none⟩ (.slice none 0 0) rfl)) (Ext.trans X0.out EX.out).size (by rintro k rfl; omega)⟩
  exact bodyPost_ret (v := .tuple #[.agg #[.int .i64 0, .int .i64 0, .int .i64 0, .int .i64 0, .bool false, .int .i64 0, .slice none 0 0], .int .i64 7]) (by simp [results, Try.results39, go_sem, hc0, hc1, hc2, hc3, hc4, hc5, hc6]) rfl hE

set_option maxRecDepth 8000 in
set_option maxHeartbeats 8000000 in
theorem rprep_ok (x : Nat) (n kep : Int) (kns : List Int) (pr pn ar an : Int) (has : Bool) (vep : Int) (vns : List Int) (ep br bn : Int) (w : World) (H : XAt w x ⟨n, kep, kns, pr, pn, ar, an, has, vep, vns⟩) (hb1 : -9223372036854775808 ≤ ep ∧ ep ≤ 9223372036854775807) (hk0 : 0 ≤ kep ∧ kep ≤ 1073741824) (hm : mayBal br bn = true) (h3 : ep = kep + 1) (h4 : ¬ cmpBal br bn pr pn < 0) :
    Calls Try.prog 39 #[.pointer (some ⟨x, 0, none⟩), .int .i64 ep, .agg #[.int .i64 br, .int .i64 bn]] w fun e w' => ∃ A c, e = .returned (.tuple #[.agg #[.int .i64 br, .int .i64 bn, .int .i64 ar, .int .i64 an, .bool has, .int .i64 vep, .slice A vns.length c], .int .i64 0]) ∧ In w' A c vns ∧ XAt w' x ⟨n, kep, kns, br, bn, ar, an, has, vep, vns⟩ ∧ Frm (oneA x) w w' := by
  refine hide_post fun D hD => ?_
  have hlt := H.lt
  have HX := Lib.hid H
  obtain ⟨kA, kc, vA, vc, kB, hk, hv⟩ := H
  simp only at hk hv
  obtain ⟨w0, hw0⟩ : ∃ w0, w0 = (w.alloc (.cells #[.int .i64 br, .int .i64 bn] 23)).alloc (.cells #[.int .i64 0, .int .i64 0, .int .i64 0, .int .i64 0, .bool false, .int .i64 0, .slice none 0 0] 40) := ⟨_, rfl⟩
  have hb0 : Ext w w0 := by rw [hw0]; exact Ext.trans (ext_al _ _) (ext_al _ _)
  have KBB : Hid (Blk w0 w.heap.size 23 #[.int .i64 br, .int .i64 bn]) := by show Blk _ _ _ _; rw [hw0]; exact (Blk.new _ _ _).alloc _
  have KR : Hid (Blk w0 (w.heap.size + 1) 40 #[.int .i64 0, .int .i64 0, .int .i64 0, .int .i64 0, .bool false, .int .i64 0, .slice none 0 0]) := by show Blk _ _ _ _; rw [hw0]; exact Blk.new' _ _ _ _ (by simp)
  have hz0 : w0.heap.size = w.heap.size + 2 := by rw [hw0]; simp
  have CM : Hid (∀ V, Calls Try.prog 13 #[.agg #[.int .i64 br, .int .i64 bn]] V fun e w' => e = .returned (.bool true) ∧ Ext V w') := fun V => by rw [← hm]; exact refMayBal_any br bn V
  have hle : ¬ ep ≤ kep := by omega
  have hsub : wrap64 (ep - 1) = kep := by unfold wrap64; omega
  have CC : Hid (∀ V, Calls Try.prog 34 #[.agg #[.int .i64 br, .int .i64 bn], .agg #[.int .i64 pr, .int .i64 pn]] V fun e w' => e = .returned (.int .i64 (cmpBal br bn pr pn)) ∧ Ext V w') := fun V => refCmp_any br bn pr pn V
  have y1 : ∀ V, Ext w0 V → V.cell? ⟨x, 1, none⟩ = some (.int .i64 kep) := fun V h => ((kB.stay hb0).stay h).cell 1
  have y2 : ∀ V, Ext w0 V → V.cell? ⟨x, 2, none⟩ = some (.slice kA kns.length kc) := fun V h => ((kB.stay hb0).stay h).cell 2
  have y3 : ∀ V, Ext w0 V → V.cell? ⟨x, 3, none⟩ = some (.int .i64 pr) := fun V h => ((kB.stay hb0).stay h).cell 3
  have y4 : ∀ V, Ext w0 V → V.cell? ⟨x, 4, none⟩ = some (.int .i64 pn) := fun V h => ((kB.stay hb0).stay h).cell 4
  have y5 : ∀ V, Ext w0 V → V.cell? ⟨x, 5, none⟩ = some (.int .i64 ar) := fun V h => ((kB.stay hb0).stay h).cell 5
  have y6 : ∀ V, Ext w0 V → V.cell? ⟨x, 6, none⟩ = some (.int .i64 an) := fun V h => ((kB.stay hb0).stay h).cell 6
  have y7 : ∀ V, Ext w0 V → V.cell? ⟨x, 7, none⟩ = some (.bool has) := fun V h => ((kB.stay hb0).stay h).cell 7
  have y8 : ∀ V, Ext w0 V → V.cell? ⟨x, 8, none⟩ = some (.int .i64 vep) := fun V h => ((kB.stay hb0).stay h).cell 8
  have y9 : ∀ V, Ext w0 V → V.cell? ⟨x, 9, none⟩ = some (.slice vA vns.length vc) := fun V h => ((kB.stay hb0).stay h).cell 9
  have z0 : ∀ V, Ext w0 V → V.cell? ⟨w.heap.size, 0, none⟩ = some (.int .i64 br) := fun V h => (KBB.out.stay h).cell 0
  have z1 : ∀ V, Ext w0 V → V.cell? ⟨w.heap.size, 1, none⟩ = some (.int .i64 bn) := fun V h => (KBB.out.stay h).cell 1
  have KBW := Lib.hid kB
  have HK := Lib.hid hk
  have HV := Lib.hid hv
  have HW := Lib.hid hw0
  have X0 := Lib.hid hb0
  have HZ0 := Lib.hid hz0
  have HLT := Lib.hid hlt
  clear hb0 hw0 hz0 hk hv kB hm
  generalize cmpBal br bn pr pn = cm at *
  go_enter Try.func39, Try.ntmps39
  go_upto_region 7 with (go_at_call 13; rw [← HW.out]; (with_reducible refine (CM.out _).mono ?_); rintro e w1 ⟨rfl, hx⟩; have E1 : Hid (Ext w0 w1) := hx; have a1 := y1 w1 hx; have a2 := y2 w1 hx; have a3 := y3 w1 hx; have a4 := y4 w1 hx; have a5 := y5 w1 hx; have a6 := y6 w1 hx; have a7 := y7 w1 hx; have a8 := y8 w1 hx; have a9 := y9 w1 hx; have b0 := z0 w1 hx; have b1 := z1 w1 hx; have rc0 := (KR.out.stay hx).cell 0; have rf0 := (KR.out.stay hx).frozen 0; have rc1 := (KR.out.stay hx).cell 1; have rf1 := (KR.out.stay hx).frozen 1; have rc2 := (KR.out.stay hx).cell 2; have rf2 := (KR.out.stay hx).frozen 2; have rc3 := (KR.out.stay hx).cell 3; have rf3 := (KR.out.stay hx).frozen 3; have rc4 := (KR.out.stay hx).cell 4; have rf4 := (KR.out.stay hx).frozen 4; have rc5 := (KR.out.stay hx).cell 5; have rf5 := (KR.out.stay hx).frozen 5; have rc6 := (KR.out.stay hx).cell 6; have rf6 := (KR.out.stay hx).frozen 6; simp at rc0 rc1 rc2 rc3 rc4 rc5 rc6; clear hx)
  clear a1 a2 a3 a4 a5 a6 a7 a8 a9 b0 b1 rc0 rf0 rc1 rf1 rc2 rf2 rc3 rf3 rc4 rf4 rc5 rf5 rc6 rf6
  refine ext_begin (by kernel_rfl) ?_
  have E1d := Lib.hid (Ext.drewR E1.out)
  refine ext_take (i := 0) (v := ?_) rfl (by kernel_rfl) (by kernel_rfl) (by kernel_rfl) (fun _ _ _ h => h) (by rfl) ?_ ?_
  rotate_left
  · intro W hW; have hW0 := Ext.trans E1d.out hW; clear hW; go_simp <;> with_reducible rfl
  try simp only [Act.put, List.setIfInBounds_toArray, List.set_cons_zero, List.set_cons_succ]
  refine ext_take (i := 1) (v := ?_) rfl (by kernel_rfl) (by kernel_rfl) (by kernel_rfl) (fun _ _ _ h => h) (by rfl) ?_ ?_
  rotate_left
  · intro W hW; have hW0 := Ext.trans E1d.out hW; clear hW; go_simp <;> with_reducible rfl
  try simp only [Act.put, List.setIfInBounds_toArray, List.set_cons_zero, List.set_cons_succ]
  refine ext_take (i := 2) (v := ?_) rfl (by kernel_rfl) (by kernel_rfl) (by kernel_rfl) (fun _ _ _ h => h) (by rfl) ?_ ?_
  rotate_left
  · intro W hW; have hW0 := Ext.trans E1d.out hW; clear hW; go_simp <;> with_reducible rfl
  try simp only [Act.put, List.setIfInBounds_toArray, List.set_cons_zero, List.set_cons_succ]
  refine ext_take (i := 3) (v := ?_) rfl (by kernel_rfl) (by kernel_rfl) (by kernel_rfl) (fun _ _ _ h => h) (by rfl) ?_ ?_
  rotate_left
  · intro W hW; have hW0 := Ext.trans E1d.out hW; clear hW; go_simp <;> with_reducible rfl
  try simp only [Act.put, List.setIfInBounds_toArray, List.set_cons_zero, List.set_cons_succ]
  refine ext_take (i := 4) (v := ?_) rfl (by kernel_rfl) (by kernel_rfl) (by kernel_rfl) (fun _ _ _ h => h) (by rfl) ?_ ?_
  rotate_left
  · intro W hW; have hW0 := Ext.trans E1d.out hW; clear hW; go_simp <;> with_reducible rfl
  try simp only [Act.put, List.setIfInBounds_toArray, List.set_cons_zero, List.set_cons_succ]
  refine ext_take (i := 5) (v := ?_) rfl (by kernel_rfl) (by kernel_rfl) (by kernel_rfl) (fun _ _ _ h => h) (by rfl) ?_ ?_
  rotate_left
  · intro W hW; have hW0 := Ext.trans E1d.out hW; clear hW; go_simp <;> with_reducible rfl
  try simp only [Act.put, List.setIfInBounds_toArray, List.set_cons_zero, List.set_cons_succ]
  refine ext_call (i := 6) rfl (by kernel_rfl) (by rfl) (fun K' hK => ?_)
  go_simp
  (go_at_call 34; (with_reducible refine (CC.out _).mono ?_); rintro e w2 ⟨rfl, hx⟩; refine hK _ _ hx ?_; clear hK)
  have Ew2 := Lib.hid (Ext.trans E1d.out hx)
  clear hx
  try simp only [Act.put, List.setIfInBounds_toArray, List.set_cons_zero, List.set_cons_succ]
  refine ext_take (i := 7) (v := ?_) rfl (by kernel_rfl) (by kernel_rfl) (by kernel_rfl) (fun _ _ _ h => h) (by rfl) ?_ ?_
  rotate_left
  · intro W hW; have hW0 := Ext.trans Ew2.out hW; clear hW; go_simp <;> with_reducible rfl
  try simp only [Act.put, List.setIfInBounds_toArray, List.set_cons_zero, List.set_cons_succ]
  refine ext_take (i := 8) (v := ?_) rfl (by kernel_rfl) (by kernel_rfl) (by kernel_rfl) (fun _ _ _ h => h) (by rfl) ?_ ?_
  rotate_left
  · intro W hW; have hW0 := Ext.trans Ew2.out hW; clear hW; go_simp <;> with_reducible rfl
  try simp only [Act.put, List.setIfInBounds_toArray, List.set_cons_zero, List.set_cons_succ]
  refine wpAnyH_done (by kernel_rfl) ?_ _
  have EX := Lib.hid Ew2.out
  clear Ew2 E1d
  have K2 := Lib.hid ((KBW.out.stay X0.out).stay EX.out)
  have a3 := y3 w2 EX.out
  have a4 := y4 w2 EX.out
  have a5 := y5 w2 EX.out
  have a6 := y6 w2 EX.out
  have a7 := y7 w2 EX.out
  have a8 := y8 w2 EX.out
  have a9 := y9 w2 EX.out
  have b0 := z0 w2 EX.out
  have b1 := z1 w2 EX.out
  have f3 := K2.out.frozen 3
  have f4 := K2.out.frozen 4
  clear y1 y2 y3 y4 y5 y6 y7 y8 y9 z0 z1
  go_upto_region 10 with fail
  obtain ⟨W6, hW6⟩ : ∃ W6, W6 = ((w2.setCell ⟨x, 3, none⟩ (.int .i64 br)).setCell ⟨x, 4, none⟩ (.int .i64 bn)) := ⟨_, rfl⟩
  have K6 : Hid (Blk W6 x 80 (acells ⟨n, kep, kns, br, bn, ar, an, has, vep, vns⟩ kA kc vA vc)) := by (show Blk _ _ _ _); rw [hW6]; exact (K2.out.set 3 (.int .i64 br)).set 4 (.int .i64 bn)
  have F6 : Hid (Frm (oneA x) w2 W6) := by (show Frm _ _ _); rw [hW6]; exact Frm.tr (Frm.of_set _ _ _ rfl) (Frm.of_set _ _ _ rfl)
  have XA2 := Lib.hid (HX.out.stay (Ext.trans X0.out EX.out))
  have KR6 := Lib.hid ((KR.out.stay EX.out).frm F6.out (XA2.out.ne (KR.out.stay EX.out) (by decide)))
  have HK6 := Lib.hid (XA2.out.in_ (HK.out.stay (Ext.trans X0.out EX.out)) F6.out)
  have HV6 := Lib.hid (XA2.out.in_ (HV.out.stay (Ext.trans X0.out EX.out)) F6.out)
  try rw [← hW6]
  clear hW6 a3 a4 a5 a6 a7 a8 a9 b0 b1 f3 f4
  have a3 := K6.out.cell 3
  have a4 := K6.out.cell 4
  have a5 := K6.out.cell 5
  have a6 := K6.out.cell 6
  have a7 := K6.out.cell 7
  have a8 := K6.out.cell 8
  have a9 := K6.out.cell 9
  simp [acells] at a3 a4 a5 a6 a7 a8 a9
  have rc0 := KR6.out.cell 0
  have rf0 := KR6.out.frozen 0
  have rc1 := KR6.out.cell 1
  have rf1 := KR6.out.frozen 1
  have rc2 := KR6.out.cell 2
  have rf2 := KR6.out.frozen 2
  have rc3 := KR6.out.cell 3
  have rf3 := KR6.out.frozen 3
  have rc4 := KR6.out.cell 4
  have rf4 := KR6.out.frozen 4
  have rc5 := KR6.out.cell 5
  have rf5 := KR6.out.frozen 5
  have rc6 := KR6.out.cell 6
  have rf6 := KR6.out.frozen 6
  simp at rc0 rc1 rc2 rc3 rc4 rc5 rc6
  go_wp2_with fail
  have F8 : Hid (Frm (fun k => k = (w.heap.size + 1)) W6 (((((((W6.setCell ⟨(w.heap.size + 1), 0, none⟩ (.int .i64 br)).setCell ⟨(w.heap.size + 1), 1, none⟩ (.int .i64 bn)).setCell ⟨(w.heap.size + 1), 2, none⟩ (.int .i64 ar)).setCell ⟨(w.heap.size + 1), 3, none⟩ (.int .i64 an)).setCell ⟨(w.heap.size + 1), 4, none⟩ (.bool has)).setCell ⟨(w.heap.size + 1), 5, none⟩ (.int .i64 vep)).setCell ⟨(w.heap.size + 1), 6, none⟩ (.slice vA vns.length vc))) := Frm.tr (Frm.tr (Frm.tr (Frm.tr (Frm.tr (Frm.tr (Frm.tr (Frm.refl (fun k => k = (w.heap.size + 1)) W6) (Frm.of_set _ ⟨(w.heap.size + 1), 0, none⟩ (.int .i64 br) rfl)) (Frm.of_set _ ⟨(w.heap.size + 1), 1, none⟩ (.int .i64 bn) rfl)) (Frm.of_set _ ⟨(w.heap.size + 1), 2, none⟩ (.int .i64 ar) rfl)) (Frm.of_set _ ⟨(w.heap.size + 1), 3, none⟩ (.int .i64 an) rfl)) (Frm.of_set _ ⟨(w.heap.size + 1), 4, none⟩ (.bool has) rfl)) (Frm.of_set _ ⟨(w.heap.size + 1), 5, none⟩ (.int .i64 vep) rfl)) (Frm.of_set _ ⟨(w.heap.size + 1), 6, none⟩ (.slice vA vns.length vc) rfl)
  have KA := (((((((KR6.out.set 0 (.int .i64 br)).set 1 (.int .i64 bn)).set 2 (.int .i64 ar)).set 3 (.int .i64 an)).set 4 (.bool has)).set 5 (.int .i64 vep)).set 6 (.slice vA vns.length vc))
  have hc0 := KA.cell 0
  have hc1 := KA.cell 1
  have hc2 := KA.cell 2
  have hc3 := KA.cell 3
  have hc4 := KA.cell 4
  have hc5 := KA.cell 5
  have hc6 := KA.cell 6
  have hni : ∀ g cs, Blk W6 g 3 cs → ¬ g = (w.heap.size + 1) := fun g cs hb e => Blk.apart hb KR6.out (by decide) e
  have hE := hD.out (.returned (.tuple #[.agg #[.int .i64 br, .int .i64 bn, .int .i64 ar, .int .i64 an, .bool has, .int .i64 vep, .slice vA vns.length vc], .int .i64 0])) _ ⟨vA, vc, rfl, HV6.out.frm F8.out hni, ⟨kA, kc, vA, vc, K6.out.frm F8.out (show ¬ x = (w.heap.size + 1) by have := HLT.out; omega), HK6.out.frm F8.out hni, HV6.out.frm F8.out hni⟩, Frm.drop (s := fun k => k = x ∨ k = (w.heap.size + 1)) (Frm.tr (Frm.tr (Frm.of_below (Ext.trans X0.out EX.out) _) (F6.out.mono (fun k hk => Or.inl hk))) (F8.out.mono (fun k hk => Or.inr hk))) (fun k hk h => by rcases h with h | h; exact h; omega)⟩
  exact bodyPost_ret (v := .tuple #[.agg #[.int .i64 br, .int .i64 bn, .int .i64 ar, .int .i64 an, .bool has, .int .i64 vep, .slice vA vns.length vc], .int .i64 0]) (by simp [results, Try.results39, go_sem, hc0, hc1, hc2, hc3, hc4, hc5, hc6]) rfl hE

theorem rprep_any (x : Nat) (v : AV) (ep br bn : Int) (w : World) (H : XAt w x v) (K : AOk v) (hb1 : -9223372036854775808 ≤ ep ∧ ep ≤ 9223372036854775807) :
    Calls Try.prog 39 #[.pointer (some ⟨x, 0, none⟩), .int .i64 ep, .agg #[.int .i64 br, .int .i64 bn]] w fun e w' => ∃ A c, e = .returned (.tuple #[.agg #[.int .i64 (prepR v ep br bn).pr, .int .i64 (prepR v ep br bn).pn, .int .i64 (prepR v ep br bn).ar, .int .i64 (prepR v ep br bn).an, .bool (prepR v ep br bn).has, .int .i64 (prepR v ep br bn).vep, .slice A (prepR v ep br bn).vns.length c], .int .i64 (prepE v ep br bn)]) ∧
      In w' A c (prepR v ep br bn).vns ∧ XAt w' x (prepV v ep br bn) ∧ Frm (oneA x) w w' := by
  have kb := K.kb
  obtain ⟨n, kep, kns, pr, pn, ar, an, has, vep, vns⟩ := v
  simp only at kb
  have no : ∀ e0 : Int, ¬ e0 = 0 → prepE ⟨n, kep, kns, pr, pn, ar, an, has, vep, vns⟩ ep br bn = e0 → Calls Try.prog 39 #[.pointer (some ⟨x, 0, none⟩), .int .i64 ep, .agg #[.int .i64 br, .int .i64 bn]] w (fun e w' => e = .returned (.tuple #[.agg #[.int .i64 0, .int .i64 0, .int .i64 0, .int .i64 0, .bool false, .int .i64 0, .slice none 0 0], .int .i64 e0]) ∧ Ext w w') → Calls Try.prog 39 #[.pointer (some ⟨x, 0, none⟩), .int .i64 ep, .agg #[.int .i64 br, .int .i64 bn]] w fun e w' => ∃ A c, e = .returned (.tuple #[.agg #[.int .i64 (prepR ⟨n, kep, kns, pr, pn, ar, an, has, vep, vns⟩ ep br bn).pr, .int .i64 (prepR ⟨n, kep, kns, pr, pn, ar, an, has, vep, vns⟩ ep br bn).pn, .int .i64 (prepR ⟨n, kep, kns, pr, pn, ar, an, has, vep, vns⟩ ep br bn).ar, .int .i64 (prepR ⟨n, kep, kns, pr, pn, ar, an, has, vep, vns⟩ ep br bn).an, .bool (prepR ⟨n, kep, kns, pr, pn, ar, an, has, vep, vns⟩ ep br bn).has, .int .i64 (prepR ⟨n, kep, kns, pr, pn, ar, an, has, vep, vns⟩ ep br bn).vep, .slice A (prepR ⟨n, kep, kns, pr, pn, ar, an, has, vep, vns⟩ ep br bn).vns.length c], .int .i64 (prepE ⟨n, kep, kns, pr, pn, ar, an, has, vep, vns⟩ ep br bn)]) ∧ In w' A c (prepR ⟨n, kep, kns, pr, pn, ar, an, has, vep, vns⟩ ep br bn).vns ∧ XAt w' x (prepV ⟨n, kep, kns, pr, pn, ar, an, has, vep, vns⟩ ep br bn) ∧ Frm (oneA x) w w' := by
    intro e0 hne hE hc
    have h : ¬ prepE ⟨n, kep, kns, pr, pn, ar, an, has, vep, vns⟩ ep br bn = 0 := by rw [hE]; exact hne
    have hR : prepR ⟨n, kep, kns, pr, pn, ar, an, has, vep, vns⟩ ep br bn = ⟨n, kep, kns, 0, 0, 0, 0, false, 0, []⟩ := by unfold prepR; rw [if_neg h]
    have hV : prepV ⟨n, kep, kns, pr, pn, ar, an, has, vep, vns⟩ ep br bn = ⟨n, kep, kns, pr, pn, ar, an, has, vep, vns⟩ := by unfold prepV; rw [if_neg h]
    rw [hR, hV, hE]
    exact hc.mono fun e w' ⟨h1, h2⟩ => ⟨none, 0, h1, In.nil _, H.stay h2, Frm.of_below h2 _⟩
  cases hm : mayBal br bn with
  | false => exact no 1 (by decide) (by unfold prepE; simp [hm, firstI]) (rprep_1 x n kep kns pr pn ar an has vep vns ep br bn w H hb1 kb hm)
  | true =>
    by_cases h2 : ep ≤ kep
    · exact no 7 (by decide) (by unfold prepE; simp [hm, firstI, h2]) (rprep_2 x n kep kns pr pn ar an has vep vns ep br bn w H hb1 kb hm h2)
    · by_cases h3 : ep = kep + 1
      · by_cases h4 : cmpBal br bn pr pn < 0
        · exact no 7 (by decide) (by unfold prepE; simp [hm, firstI, h2, h4]; intro h; exact absurd h3 h) (rprep_4 x n kep kns pr pn ar an has vep vns ep br bn w H hb1 kb hm h3 h4)
        · have h : prepE ⟨n, kep, kns, pr, pn, ar, an, has, vep, vns⟩ ep br bn = 0 := by unfold prepE; simp only [hm, decide_eq_true h3, decide_eq_false h2, decide_eq_false h4]; rfl
          have hR : prepR ⟨n, kep, kns, pr, pn, ar, an, has, vep, vns⟩ ep br bn = ⟨n, kep, kns, br, bn, ar, an, has, vep, vns⟩ := by unfold prepR; rw [if_pos h]
          have hV : prepV ⟨n, kep, kns, pr, pn, ar, an, has, vep, vns⟩ ep br bn = ⟨n, kep, kns, br, bn, ar, an, has, vep, vns⟩ := by unfold prepV; rw [if_pos h]
          rw [hR, hV, h]
          exact rprep_ok x n kep kns pr pn ar an has vep vns ep br bn w H hb1 kb hm h3 h4
      · exact no 4 (by decide) (by unfold prepE; simp [hm, firstI, h2, h3]) (rprep_3 x n kep kns pr pn ar an has vep vns ep br bn w H hb1 kb hm (by omega) h3)


end Go.Proofs.Ytkdcbidbciognaa
