/-
  The acceptor (law 13): a copy of a chain; what it knows, its vote, a new one.
-/
import Derived.Test.YtkdcbidbciognaaAcc2
namespace Go.Proofs.Ytkdcbidbciognaa
set_option linter.unusedVariables false
set_option linter.unusedSimpArgs false
open Go.RowKit

set_option maxHeartbeats 2000000 in
/-- a copy of a chain: nodes of its own -/
theorem acopied_any (ep : Int) (A : Option Addr) (cap : Nat) (l : List Int) (w : World) (hl : l.length ≤ 1000000000000) (hs : Sl i64 w A l) :
    Calls Try.prog 61 #[.agg #[.int .i64 ep, .slice A l.length cap]] w fun e w' => ∃ v, e = .returned (.agg #[.int .i64 ep, v]) ∧ w'.ownsRow w.heap.size 3 1 v l.length (l.map i64) ∧ Below w.heap.size w w' := by
  refine hide_post fun D hD => ?_
  obtain ⟨w0, hw0⟩ : ∃ w0, w0 = (w.alloc (.cells #[.int .i64 ep, .slice A l.length cap] 26)).alloc (.cells #[.int .i64 0, .slice none 0 0] 26) := ⟨_, rfl⟩
  have hb0 : Ext w w0 := by rw [hw0]; exact ((Below.refl _ _).alloc (Nat.le_refl _) _).alloc (by simp) _
  have K0 : Hid (Blk w0 w.heap.size 26 #[.int .i64 ep, .slice A l.length cap]) := by show Blk _ _ _ _; rw [hw0]; exact (Blk.new _ _ _).alloc _
  have K1 : Hid (Blk w0 (w.heap.size + 1) 26 #[.int .i64 0, .slice none 0 0]) := by show Blk _ _ _ _; rw [hw0]; exact Blk.new' _ _ _ _ (by simp)
  have HC : Hid (Calls Try.prog 84 #[.slice A l.length cap] w0 fun e w' => ∃ v, e = .returned v ∧ w'.ownsRow w0.heap.size 3 1 v l.length (l.map i64) ∧ Ext w0 w') := cloneI_any A cap l w0 hl (hs.stay hb0)
  have HB := Lib.hid hb0
  have HW := Lib.hid hw0
  clear hb0 hw0 hs
  go_enter Try.func61, Try.ntmps61
  go_wp2_with (go_at_call 84; rw [← HW.out]; (with_reducible refine HC.out.mono ?_); rintro e w1 ⟨v, rfl, ho, hx⟩; obtain ⟨A', c', rfl⟩ := own_shape ho; have c0 := (K0.out.stay hx).cell 0; have c1 := (K0.out.stay hx).cell 1; have f1 := (K0.out.stay hx).frozen 1; have d0 := (K1.out.stay hx).cell 0; have d1 := (K1.out.stay hx).cell 1; have g0 := (K1.out.stay hx).frozen 0; have g1 := (K1.out.stay hx).frozen 1; have HO := Lib.hid ho; have HX := Lib.hid hx; clear ho hx)
  have hlt : w0.heap.size = w.heap.size + 1 + 1 := by have h1 := HW.out; rw [h1]; simp
  have KA := Lib.hid ((((K1.out.stay HX.out).far (p := ⟨w.heap.size, 1, none⟩) (show w.heap.size + 1 ≠ w.heap.size by omega) (.slice A' l.length c')).set 0 (.int .i64 ep)).set 1 (.slice A' l.length c'))
  have HF : Hid (Frm (fun k => k = w.heap.size ∨ k = w.heap.size + 1) w1 (((w1.setCell ⟨w.heap.size, 1, none⟩ (.slice A' l.length c')).setCell ⟨w.heap.size + 1, 0, none⟩ (.int .i64 ep)).setCell ⟨w.heap.size + 1, 1, none⟩ (.slice A' l.length c'))) := Frm.tr (Frm.tr (Frm.of_set _ _ _ (Or.inl rfl)) (Frm.of_set _ _ _ (Or.inr rfl))) (Frm.of_set _ _ _ (Or.inr rfl))
  have hcA := KA.out.cell 0
  have hcB := KA.out.cell 1
  have hE := hD.out (.returned (.agg #[.int .i64 ep, .slice A' l.length c'])) _ ⟨_, rfl, own_base (base' := w.heap.size) (own_frm HO.out HF.out (fun k hk => by have := (HO.out.lt k hk).1; rintro (e | e) <;> omega)) (fun k hk => by have := (HO.out.lt k hk).1; omega), Frm.step (Ext.trans HB.out HX.out) HF.out (Ext.trans HB.out HX.out).size (by rintro k (e | e) <;> omega)⟩
  exact bodyPost_ret (v := .agg #[.int .i64 ep, .slice A' l.length c']) (by simp [results, Try.results61, go_sem, hcA, hcB]) rfl hE

theorem In.set {w : World} {A : Option Addr} {cap g : Nat} {ns : List Int} {t : TypeId} {cs : Array Value} (h : In w A cap ns) (hb : Blk w g t cs) (ht : 3 ≠ t) (i : Nat) (u : Value) : In (w.setCell ⟨g, i, none⟩ u) A cap ns :=
  h.of fun g' cs' hb' => hb'.far (p := ⟨g, i, none⟩) (Blk.apart hb' hb ht) u

set_option maxHeartbeats 2000000 in
theorem known_any (a : Nat) (v : AV) (w : World) (H : AAt w a v) (hl : v.kns.length ≤ 1000000) :
    Calls Try.prog 30 #[pA a] w fun e w' => ∃ A c, e = .returned (.agg #[.int .i64 v.kep, .slice A v.kns.length c]) ∧ In w' A c v.kns ∧ Ext w w' := by
  refine hide_post fun D hD => ?_
  obtain ⟨w0, hw0⟩ : ∃ w0, w0 = w.alloc (.cells #[.int .i64 0, .slice none 0 0] 26) := ⟨_, rfl⟩
  have hb0 : Ext w w0 := by rw [hw0]; exact ext_al _ _
  have K1 : Hid (Blk w0 w.heap.size 26 #[.int .i64 0, .slice none 0 0]) := by show Blk _ _ _ _; rw [hw0]; exact Blk.new _ _ _
  obtain ⟨kA, kc, vA, vc, kB, hk, hv⟩ := H
  obtain ⟨n, kep, kns, pr, pn, ar, an, has, vep, vns⟩ := v
  have a1 : w.cell? ⟨a, 1, none⟩ = some (.int .i64 kep) := kB.cell 1
  have a2 : w.cell? ⟨a, 2, none⟩ = some (.slice kA kns.length kc) := kB.cell 2
  simp only at *
  have HC : Hid (Calls Try.prog 61 #[.agg #[.int .i64 kep, .slice kA kns.length kc]] w0 fun e w' => ∃ v, e = .returned (.agg #[.int .i64 kep, v]) ∧ w'.ownsRow w0.heap.size 3 1 v kns.length (kns.map i64) ∧ Ext w0 w') := acopied_any kep kA kc kns w0 (by omega) (hk.sl.stay hb0)
  have HB := Lib.hid hb0
  have HW := Lib.hid hw0
  have halt := kB.lt
  have a1' : ∀ o, (w.alloc o).cell? ⟨a, 1, none⟩ = some (.int .i64 kep) := fun o => (kB.stay (ext_al _ _)).cell 1
  have a2' : ∀ o, (w.alloc o).cell? ⟨a, 2, none⟩ = some (.slice kA kns.length kc) := fun o => (kB.stay (ext_al _ _)).cell 2
  clear hb0 hw0 kB hk hv a1 a2
  unfold pA
  go_enter Try.func30, Try.ntmps30
  go_wp2_with (go_at_call 61; rw [← HW.out]; (with_reducible refine HC.out.mono ?_); rintro e w1 ⟨v, rfl, ho, hx⟩; obtain ⟨A', c', rfl, hin⟩ := In.own ho; have d0 := (K1.out.stay hx).cell 0; have d1 := (K1.out.stay hx).cell 1; have g0 := (K1.out.stay hx).frozen 0; have g1 := (K1.out.stay hx).frozen 1; have KX := Lib.hid (K1.out.stay hx); have HIN := Lib.hid hin; have HX := Lib.hid hx; clear ho hx hin)
  have KA := Lib.hid ((KX.out.set 0 (.int .i64 kep)).set 1 (.slice A' kns.length c'))
  have hcA := KA.out.cell 0
  have hcB := KA.out.cell 1
  have hE := hD.out (.returned (.agg #[.int .i64 kep, .slice A' kns.length c'])) _ ⟨A', c', rfl, (HIN.out.set KX.out (by decide) 0 (.int .i64 kep)).set (KX.out.set 0 (.int .i64 kep)) (by decide) 1 (.slice A' kns.length c'), Frm.step (Ext.trans HB.out HX.out) (Frm.tr (Frm.of_set (s := fun k => k = w.heap.size) w1 ⟨w.heap.size, 0, none⟩ (.int .i64 kep) rfl) (Frm.of_set _ ⟨w.heap.size, 1, none⟩ (.slice A' kns.length c') rfl)) (Ext.trans HB.out HX.out).size (by rintro k rfl; exact Nat.le_refl _)⟩
  exact bodyPost_ret (v := .agg #[.int .i64 kep, .slice A' kns.length c']) (by simp [results, Try.results30, go_sem, hcA, hcB]) rfl hE

theorem known_nil (w : World) : Calls Try.prog 30 #[.pointer none] w fun e w' => e = .returned (.agg #[.int .i64 0, .slice none 0 0]) ∧ Ext w w' := by
  refine hide_post fun D hD => ?_
  have K1 : Hid (Blk (w.alloc (.cells #[.int .i64 0, .slice none 0 0] 26)) w.heap.size 26 #[.int .i64 0, .slice none 0 0]) := Blk.new _ _ _
  have hcA := K1.out.cell 0
  have hcB := K1.out.cell 1
  simp at hcA hcB
  go_enter Try.func30, Try.ntmps30
  go_wp2_with fail
  exact bodyPost_ret (v := .agg #[.int .i64 0, .slice none 0 0]) (by simp [results, Try.results30, go_sem, hcA, hcB]) rfl (hD.out _ _ ⟨rfl, ext_al _ _⟩)

set_option maxHeartbeats 2000000 in
theorem vote_nil (w : World) : Calls Try.prog 29 #[.pointer none] w fun e w' => e = .returned (.agg #[.int .i64 0, .int .i64 0, .int .i64 0, .int .i64 0, .bool false, .int .i64 0, .slice none 0 0]) ∧ Ext w w' := by
  refine hide_post fun D hD => ?_
  have K1 : Hid (Blk (w.alloc (.cells #[.int .i64 0, .int .i64 0, .int .i64 0, .int .i64 0, .bool false, .int .i64 0, .slice none 0 0] 40)) w.heap.size 40 #[.int .i64 0, .int .i64 0, .int .i64 0, .int .i64 0, .bool false, .int .i64 0, .slice none 0 0]) := Blk.new _ _ _
  have hc0 := K1.out.cell 0
  have hc1 := K1.out.cell 1
  have hc2 := K1.out.cell 2
  have hc3 := K1.out.cell 3
  have hc4 := K1.out.cell 4
  have hc5 := K1.out.cell 5
  have hc6 := K1.out.cell 6
  simp at hc0 hc1 hc2 hc3 hc4 hc5 hc6
  go_enter Try.func29, Try.ntmps29
  go_wp2_with fail
  exact bodyPost_ret (v := .agg #[.int .i64 0, .int .i64 0, .int .i64 0, .int .i64 0, .bool false, .int .i64 0, .slice none 0 0]) (by simp [results, Try.results29, go_sem, hc0, hc1, hc2, hc3, hc4, hc5, hc6]) rfl (hD.out _ _ ⟨rfl, ext_al _ _⟩)

set_option maxRecDepth 4000 in
set_option maxHeartbeats 4000000 in
theorem vote_any (a : Nat) (v : AV) (w : World) (H : AAt w a v) (hl : v.vns.length ≤ 1000000) :
    Calls Try.prog 29 #[pA a] w fun e w' => ∃ A c, e = .returned (.agg #[.int .i64 v.pr, .int .i64 v.pn, .int .i64 v.ar, .int .i64 v.an, .bool v.has, .int .i64 v.vep, .slice A v.vns.length c]) ∧ In w' A c v.vns ∧ Ext w w' := by
  refine hide_post fun D hD => ?_
  obtain ⟨kA, kc, vA, vc, kB, hk, hv⟩ := H
  obtain ⟨n, kep, kns, pr, pn, ar, an, has, vep, vns⟩ := v
  simp only at *
  obtain ⟨w0, hw0⟩ : ∃ w0, w0 = (w.alloc (.cells #[.int .i64 0, .int .i64 0, .int .i64 0, .int .i64 0, .bool false, .int .i64 0, .slice none 0 0] 40)).alloc (.cells #[.int .i64 pr, .int .i64 pn, .int .i64 ar, .int .i64 an, .bool has, .int .i64 vep, .slice vA vns.length vc] 40) := ⟨_, rfl⟩
  have hb0 : Ext w w0 := by rw [hw0]; exact Ext.trans (ext_al _ _) (ext_al _ _)
  have K1 : Hid (Blk w0 w.heap.size 40 #[.int .i64 0, .int .i64 0, .int .i64 0, .int .i64 0, .bool false, .int .i64 0, .slice none 0 0]) := by show Blk _ _ _ _; rw [hw0]; exact (Blk.new _ _ _).alloc _
  have K2 : Hid (Blk w0 (w.heap.size + 1) 40 #[.int .i64 pr, .int .i64 pn, .int .i64 ar, .int .i64 an, .bool has, .int .i64 vep, .slice vA vns.length vc]) := by show Blk _ _ _ _; rw [hw0]; exact Blk.new' _ _ _ _ (by simp)
  have HC : Hid (Calls Try.prog 61 #[.agg #[.int .i64 vep, .slice vA vns.length vc]] w0 fun e w' => ∃ v, e = .returned (.agg #[.int .i64 vep, v]) ∧ w'.ownsRow w0.heap.size 3 1 v vns.length (vns.map i64) ∧ Ext w0 w') := acopied_any vep vA vc vns w0 (by omega) (hv.sl.stay hb0)
  have HB := Lib.hid hb0
  have HW := Lib.hid hw0
  have halt := kB.lt
  have a3' : ∀ o, (w.alloc o).cell? ⟨a, 3, none⟩ = some (.int .i64 pr) := fun o => (kB.stay (ext_al _ _)).cell 3
  have a4' : ∀ o, (w.alloc o).cell? ⟨a, 4, none⟩ = some (.int .i64 pn) := fun o => (kB.stay (ext_al _ _)).cell 4
  have a5' : ∀ o, (w.alloc o).cell? ⟨a, 5, none⟩ = some (.int .i64 ar) := fun o => (kB.stay (ext_al _ _)).cell 5
  have a6' : ∀ o, (w.alloc o).cell? ⟨a, 6, none⟩ = some (.int .i64 an) := fun o => (kB.stay (ext_al _ _)).cell 6
  have a7' : ∀ o, (w.alloc o).cell? ⟨a, 7, none⟩ = some (.bool has) := fun o => (kB.stay (ext_al _ _)).cell 7
  have a8' : ∀ o, (w.alloc o).cell? ⟨a, 8, none⟩ = some (.int .i64 vep) := fun o => (kB.stay (ext_al _ _)).cell 8
  have a9' : ∀ o, (w.alloc o).cell? ⟨a, 9, none⟩ = some (.slice vA vns.length vc) := fun o => (kB.stay (ext_al _ _)).cell 9
  clear hb0 hw0 kB hk hv
  unfold pA
  go_enter Try.func29, Try.ntmps29
  go_wp2_with (go_at_call 61; rw [← HW.out]; (with_reducible refine HC.out.mono ?_); rintro e w1 ⟨v, rfl, ho, hx⟩; obtain ⟨A', c', rfl, hin⟩ := In.own ho; have d0 := (K1.out.stay hx).cell 0; have g0 := (K1.out.stay hx).frozen 0; have p0 := (K2.out.stay hx).cell 0; have q0 := (K2.out.stay hx).frozen 0; have d1 := (K1.out.stay hx).cell 1; have g1 := (K1.out.stay hx).frozen 1; have p1 := (K2.out.stay hx).cell 1; have q1 := (K2.out.stay hx).frozen 1; have d2 := (K1.out.stay hx).cell 2; have g2 := (K1.out.stay hx).frozen 2; have p2 := (K2.out.stay hx).cell 2; have q2 := (K2.out.stay hx).frozen 2; have d3 := (K1.out.stay hx).cell 3; have g3 := (K1.out.stay hx).frozen 3; have p3 := (K2.out.stay hx).cell 3; have q3 := (K2.out.stay hx).frozen 3; have d4 := (K1.out.stay hx).cell 4; have g4 := (K1.out.stay hx).frozen 4; have p4 := (K2.out.stay hx).cell 4; have q4 := (K2.out.stay hx).frozen 4; have d5 := (K1.out.stay hx).cell 5; have g5 := (K1.out.stay hx).frozen 5; have p5 := (K2.out.stay hx).cell 5; have q5 := (K2.out.stay hx).frozen 5; have d6 := (K1.out.stay hx).cell 6; have g6 := (K1.out.stay hx).frozen 6; have p6 := (K2.out.stay hx).cell 6; have q6 := (K2.out.stay hx).frozen 6; have KX := Lib.hid (K1.out.stay hx); have KY := Lib.hid (K2.out.stay hx); have HIN := Lib.hid hin; have HX := Lib.hid hx; clear ho hx hin)
  obtain ⟨W2, hW2⟩ : ∃ W2, W2 = ((w1.setCell ⟨w.heap.size + 1, 5, none⟩ (.int .i64 vep)).setCell ⟨w.heap.size + 1, 6, none⟩ (.slice A' vns.length c')) := ⟨_, rfl⟩
  have HKX2 : Hid (Blk W2 w.heap.size 40 #[.int .i64 0, .int .i64 0, .int .i64 0, .int .i64 0, .bool false, .int .i64 0, .slice none 0 0]) := by
    show Blk _ _ _ _
    rw [hW2]
    exact (KX.out.far (p := ⟨w.heap.size + 1, 5, none⟩) (show w.heap.size ≠ w.heap.size + 1 by omega) _).far (p := ⟨w.heap.size + 1, 6, none⟩) (show w.heap.size ≠ w.heap.size + 1 by omega) _
  have HIN2 : Hid (In W2 A' c' vns) := by
    show In _ _ _ _
    rw [hW2]
    exact (HIN.out.set KY.out (by decide) 5 _).set (KY.out.set 5 _) (by decide) 6 _
  have HF2 : Hid (Ext w W2) := by
    show Ext _ _
    rw [hW2]
    exact Frm.step (Ext.trans HB.out HX.out) (Frm.tr (Frm.of_set (s := fun k => k = w.heap.size + 1) w1 ⟨w.heap.size + 1, 5, none⟩ (.int .i64 vep) rfl) (Frm.of_set _ ⟨w.heap.size + 1, 6, none⟩ (.slice A' vns.length c') rfl)) (Ext.trans HB.out HX.out).size (by rintro k rfl; omega)
  try rw [← hW2]
  have KA := Lib.hid (((((((HKX2.out.set 0 (.int .i64 pr)).set 1 (.int .i64 pn)).set 2 (.int .i64 ar)).set 3 (.int .i64 an)).set 4 (.bool has)).set 5 (.int .i64 vep)).set 6 (.slice A' vns.length c'))
  have hc0 := KA.out.cell 0
  have hc1 := KA.out.cell 1
  have hc2 := KA.out.cell 2
  have hc3 := KA.out.cell 3
  have hc4 := KA.out.cell 4
  have hc5 := KA.out.cell 5
  have hc6 := KA.out.cell 6
  have hE := hD.out (.returned (.agg #[.int .i64 pr, .int .i64 pn, .int .i64 ar, .int .i64 an, .bool has, .int .i64 vep, .slice A' vns.length c'])) _ ⟨A', c', rfl, (((((((HIN2.out.set HKX2.out (by decide) 0 (.int .i64 pr)).set (HKX2.out.set 0 (.int .i64 pr)) (by decide) 1 (.int .i64 pn)).set ((HKX2.out.set 0 (.int .i64 pr)).set 1 (.int .i64 pn)) (by decide) 2 (.int .i64 ar)).set (((HKX2.out.set 0 (.int .i64 pr)).set 1 (.int .i64 pn)).set 2 (.int .i64 ar)) (by decide) 3 (.int .i64 an)).set ((((HKX2.out.set 0 (.int .i64 pr)).set 1 (.int .i64 pn)).set 2 (.int .i64 ar)).set 3 (.int .i64 an)) (by decide) 4 (.bool has)).set (((((HKX2.out.set 0 (.int .i64 pr)).set 1 (.int .i64 pn)).set 2 (.int .i64 ar)).set 3 (.int .i64 an)).set 4 (.bool has)) (by decide) 5 (.int .i64 vep)).set ((((((HKX2.out.set 0 (.int .i64 pr)).set 1 (.int .i64 pn)).set 2 (.int .i64 ar)).set 3 (.int .i64 an)).set 4 (.bool has)).set 5 (.int .i64 vep)) (by decide) 6 (.slice A' vns.length c')), Frm.step HF2.out (Frm.tr (Frm.tr (Frm.tr (Frm.tr (Frm.tr (Frm.tr (Frm.of_set (s := fun k => k = w.heap.size) W2 ⟨w.heap.size, 0, none⟩ (.int .i64 pr) rfl) (Frm.of_set _ ⟨w.heap.size, 1, none⟩ (.int .i64 pn) rfl)) (Frm.of_set _ ⟨w.heap.size, 2, none⟩ (.int .i64 ar) rfl)) (Frm.of_set _ ⟨w.heap.size, 3, none⟩ (.int .i64 an) rfl)) (Frm.of_set _ ⟨w.heap.size, 4, none⟩ (.bool has) rfl)) (Frm.of_set _ ⟨w.heap.size, 5, none⟩ (.int .i64 vep) rfl)) (Frm.of_set _ ⟨w.heap.size, 6, none⟩ (.slice A' vns.length c') rfl)) HF2.out.size (by rintro k rfl; exact Nat.le_refl _)⟩
  exact bodyPost_ret (v := .agg #[.int .i64 pr, .int .i64 pn, .int .i64 ar, .int .i64 an, .bool has, .int .i64 vep, .slice A' vns.length c']) (by simp [results, Try.results29, go_sem, hc0, hc1, hc2, hc3, hc4, hc5, hc6]) rfl hE

set_option maxHeartbeats 2000000 in
theorem new_no (n : Int) (w : World) (h : n < 1 ∨ 5 < n) : Calls Try.prog 26 #[.int .i64 n] w fun e w' => e = .returned (.tuple #[.pointer none, .int .i64 1]) ∧ Ext w w' := by
  refine hide_post fun D hD => ?_
  have HC := Lib.hid (chFirst_no n w h)
  clear h
  go_enter Try.func26, Try.ntmps26
  go_wp2_with (go_at_call 51; (with_reducible refine HC.out.mono ?_); rintro e w1 ⟨rfl, hx⟩; have X1 := Lib.hid hx; clear hx)
  try go_ret
  exact hD.out _ _ ⟨rfl, Ext.trans X1.out (ext_al _ _)⟩

set_option maxHeartbeats 2000000 in
theorem new_yes (n : Nat) (w : World) (h1 : 1 ≤ n) (h5 : n ≤ 5) : Calls Try.prog 26 #[.int .i64 n] w fun e w' => ∃ a, e = .returned (.tuple #[pA a, .int .i64 0]) ∧ AAt w' a ⟨n, 1, upTo n, 0, 0, 0, 0, false, 0, []⟩ ∧ Ext w w' ∧ w.heap.size ≤ a := by
  refine hide_post fun D hD => ?_
  have HC := Lib.hid (chFirst_yes n w h1 h5)
  clear h1 h5
  go_enter Try.func26, Try.ntmps26
  go_wp2_with (go_at_call 51; (with_reducible refine HC.out.mono ?_); rintro e w1 ⟨v, rfl, ho, hx⟩; obtain ⟨A', c', rfl, hin⟩ := In.own (l := upTo n) (by rw [upTo_len]; exact ho); (rw [upTo_len]); have HIN := Lib.hid hin; have X1 := Lib.hid hx; clear hx ho hin)
  try go_ret
  have hin2 : In ((w1.alloc (.cells #[.int .i64 1, .slice A' n c'] 26)).alloc (.cells #[.int .i64 n, .int .i64 1, .slice A' n c', .int .i64 0, .int .i64 0, .int .i64 0, .int .i64 0, .bool false, .int .i64 0, .slice none 0 0] 93)) A' c' (upTo n) := (HIN.out.stay (ext_al _ _)).stay (ext_al _ _)
  exact hD.out _ _ ⟨_, rfl, ⟨A', c', none, 0, by unfold acells; simp only [upTo_len]; exact Blk.new' _ _ _ _ (by simp), hin2, In.nil _⟩, Ext.trans X1.out (Ext.trans (ext_al _ _) (ext_al _ _)), by have := X1.out.size; simp; omega⟩

end Go.Proofs.Ytkdcbidbciognaa
