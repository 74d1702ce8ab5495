/-
  The acceptor (law 14, TallyOne): the same contracts, which tell where its numbers lie.
-/
import Derived.Test.YtkdcbidbciognaaAccStep
namespace Go.Proofs.Ytkdcbidbciognaa
set_option linter.unusedVariables false
set_option linter.unusedSimpArgs false
open Go.RowKit

/-- numbers in a block of their own, which is one of S -/
def InS (S : Nat → Prop) (w : World) (A : Option Addr) (cap : Nat) (ns : List Int) : Prop := In w A cap ns ∧ ∀ ad, A = some ad → S ad.block
variable {S S' : Nat → Prop}
theorem InS.mono {w : World} {A : Option Addr} {cap : Nat} {ns : List Int} (h : InS S w A cap ns) (hs : ∀ g, S g → S' g) : InS S' w A cap ns := ⟨h.1, fun ad e => hs _ (h.2 ad e)⟩
theorem InS.stay {w w' : World} {A : Option Addr} {cap : Nat} {ns : List Int} (h : InS S w A cap ns) (hx : Ext w w') : InS S w' A cap ns := ⟨h.1.stay hx, h.2⟩
theorem InS.frm {s : Nat → Prop} {w w' : World} {A : Option Addr} {cap : Nat} {ns : List Int} (h : InS S w A cap ns) (hf : Frm s w w') (hs : ∀ g cs, Blk w g 3 cs → ¬ s g) : InS S w' A cap ns := ⟨h.1.frm hf hs, h.2⟩
theorem InS.sl {w : World} {A : Option Addr} {cap : Nat} {ns : List Int} (h : InS S w A cap ns) : Sl i64 w A ns := h.1.sl
theorem InS.own {w : World} {base : Nat} {v : Value} {l : List Int} (h : w.ownsRow base 3 1 v l.length (l.map i64)) : ∃ A cap, v = .slice A l.length cap ∧ InS (fun g => base ≤ g) w A cap l := by
  obtain ⟨A, cap, rfl, hi⟩ := In.own h
  refine ⟨A, cap, rfl, hi, fun ad e => ?_⟩
  subst e
  rcases h.2 with ⟨h0, hn⟩ | ⟨g, cap', cur, h0, hb, _⟩
  · cases h0
  · injection h0 with h0
    injection h0 with h0
    subst h0
    exact hb
theorem InS.nil (S : Nat → Prop) (w : World) : InS S w none 0 [] := ⟨In.nil w, fun _ e => by cases e⟩
theorem InS.set {w : World} {A : Option Addr} {cap g : Nat} {ns : List Int} {t : TypeId} {cs : Array Value} (h : InS S w A cap ns) (hb : Blk w g t cs) (ht : 3 ≠ t) (i : Nat) (u : Value) : InS S (w.setCell ⟨g, i, none⟩ u) A cap ns := ⟨h.1.set hb ht i u, h.2⟩
def AAtS (S : Nat → Prop) (w : World) (a : Nat) (v : AV) : Prop := ∃ kA kc vA vc, Blk w a 93 (acells v kA kc vA vc) ∧ InS S w kA kc v.kns ∧ InS S w vA vc v.vns
theorem AAtS.weak {w : World} {a : Nat} {v : AV} (h : AAtS S w a v) : AAt w a v := by
  obtain ⟨kA, kc, vA, vc, h1, h2, h3⟩ := h
  exact ⟨kA, kc, vA, vc, h1, h2.1, h3.1⟩
theorem AAtS.mono {w : World} {a : Nat} {v : AV} (h : AAtS S w a v) (hs : ∀ g, S g → S' g) : AAtS S' w a v := by
  obtain ⟨kA, kc, vA, vc, h1, h2, h3⟩ := h
  exact ⟨kA, kc, vA, vc, h1, h2.mono hs, h3.mono hs⟩
theorem AAtS.lt {w : World} {a : Nat} {v : AV} (h : AAtS S w a v) : a < w.heap.size := h.weak.lt
theorem AAtS.stay {w w' : World} {a : Nat} {v : AV} (h : AAtS S w a v) (hx : Ext w w') : AAtS S w' a v := by
  obtain ⟨kA, kc, vA, vc, h1, h2, h3⟩ := h
  exact ⟨kA, kc, vA, vc, h1.stay hx, h2.stay hx, h3.stay hx⟩
theorem AAtS.frm {s : Nat → Prop} {w w' : World} {a : Nat} {v : AV} (h : AAtS S w a v) (hf : Frm s w w') (ha : ¬ s a) (hs : ∀ g cs, Blk w g 3 cs → ¬ s g) : AAtS S w' a v := by
  obtain ⟨kA, kc, vA, vc, h1, h2, h3⟩ := h
  exact ⟨kA, kc, vA, vc, h1.frm hf ha, h2.frm hf hs, h3.frm hf hs⟩
theorem AAtS.other {w w' : World} {a a' : Nat} {v v' : AV} (h : AAtS S w a v) (h' : AAtS S' w a' v') (hf : Frm (fun k => k = a') w w') (hne : a ≠ a') : AAtS S w' a v :=
  h.frm hf hne (fun g cs hb e => by obtain ⟨_, _, _, _, h1, _⟩ := h'; subst e; exact Blk.apart hb h1 (by decide) rfl)
theorem InS.other {w w' : World} {a' cap : Nat} {A : Option Addr} {ns : List Int} {v' : AV} (h : InS S w A cap ns) (h' : AAtS S' w a' v') (hf : Frm (fun k => k = a') w w') : InS S w' A cap ns :=
  h.frm hf (fun g cs hb e => by obtain ⟨_, _, _, _, h1, _⟩ := h'; subst e; exact Blk.apart hb h1 (by decide) rfl)

set_option maxRecDepth 4000 in
set_option maxHeartbeats 4000000 in
theorem vote_anyS (a : Nat) (v : AV) (w : World) (H : AAt w a v) (hl : v.vns.length ≤ 1000000) :
    Calls Try.prog 29 #[pA a] w fun e w' => ∃ A c, e = .returned (.agg #[.int .i64 v.pr, .int .i64 v.pn, .int .i64 v.ar, .int .i64 v.an, .bool v.has, .int .i64 v.vep, .slice A v.vns.length c]) ∧ InS (fun g => w.heap.size ≤ g) w' A c v.vns ∧ Ext w w' := by
  refine hide_post fun D hD => ?_
  obtain ⟨kA, kc, vA, vc, kB, hk, hv⟩ := H
  obtain ⟨n, kep, kns, pr, pn, ar, an, has, vep, vns⟩ := v
  simp only at *
  obtain ⟨w0, hw0⟩ : ∃ w0, w0 = (w.alloc (.cells #[.int .i64 0, .int .i64 0, .int .i64 0, .int .i64 0, .bool false, .int .i64 0, .slice none 0 0] 40)).alloc (.cells #[.int .i64 pr, .int .i64 pn, .int .i64 ar, .int .i64 an, .bool has, .int .i64 vep, .slice vA vns.length vc] 40) := ⟨_, rfl⟩
  have hb0 : Ext w w0 := by rw [hw0]; exact Ext.trans (ext_al _ _) (ext_al _ _)
  have K1 : Hid (Blk w0 w.heap.size 40 #[.int .i64 0, .int .i64 0, .int .i64 0, .int .i64 0, .bool false, .int .i64 0, .slice none 0 0]) := by show Blk _ _ _ _; rw [hw0]; exact (Blk.new _ _ _).alloc _
  have K2 : Hid (Blk w0 (w.heap.size + 1) 40 #[.int .i64 pr, .int .i64 pn, .int .i64 ar, .int .i64 an, .bool has, .int .i64 vep, .slice vA vns.length vc]) := by show Blk _ _ _ _; rw [hw0]; exact Blk.new' _ _ _ _ (by simp)
  have HC : Hid (Calls Try.prog 61 #[.agg #[.int .i64 vep, .slice vA vns.length vc]] w0 fun e w' => ∃ v, e = .returned (.agg #[.int .i64 vep, v]) ∧ w'.ownsRow w0.heap.size 3 1 v vns.length (vns.map i64) ∧ Ext w0 w') := acopied_any vep vA vc vns w0 (by omega) (hv.sl.stay hb0)
  have HB := Lib.hid hb0
  have HW := Lib.hid hw0
  have halt := kB.lt
  have a3' : ∀ o, (w.alloc o).cell? ⟨a, 3, none⟩ = some (.int .i64 pr) := fun o => (kB.stay (ext_al _ _)).cell 3
  have a4' : ∀ o, (w.alloc o).cell? ⟨a, 4, none⟩ = some (.int .i64 pn) := fun o => (kB.stay (ext_al _ _)).cell 4
  have a5' : ∀ o, (w.alloc o).cell? ⟨a, 5, none⟩ = some (.int .i64 ar) := fun o => (kB.stay (ext_al _ _)).cell 5
  have a6' : ∀ o, (w.alloc o).cell? ⟨a, 6, none⟩ = some (.int .i64 an) := fun o => (kB.stay (ext_al _ _)).cell 6
  have a7' : ∀ o, (w.alloc o).cell? ⟨a, 7, none⟩ = some (.bool has) := fun o => (kB.stay (ext_al _ _)).cell 7
  have a8' : ∀ o, (w.alloc o).cell? ⟨a, 8, none⟩ = some (.int .i64 vep) := fun o => (kB.stay (ext_al _ _)).cell 8
  have a9' : ∀ o, (w.alloc o).cell? ⟨a, 9, none⟩ = some (.slice vA vns.length vc) := fun o => (kB.stay (ext_al _ _)).cell 9
  clear hb0 hw0 kB hk hv
  unfold pA
  go_enter Try.func29, Try.ntmps29
  go_wp2_with (go_at_call 61; rw [← HW.out]; (with_reducible refine HC.out.mono ?_); rintro e w1 ⟨v, rfl, ho, hx⟩; obtain ⟨A', c', rfl, hin⟩ := InS.own ho; have d0 := (K1.out.stay hx).cell 0; have g0 := (K1.out.stay hx).frozen 0; have p0 := (K2.out.stay hx).cell 0; have q0 := (K2.out.stay hx).frozen 0; have d1 := (K1.out.stay hx).cell 1; have g1 := (K1.out.stay hx).frozen 1; have p1 := (K2.out.stay hx).cell 1; have q1 := (K2.out.stay hx).frozen 1; have d2 := (K1.out.stay hx).cell 2; have g2 := (K1.out.stay hx).frozen 2; have p2 := (K2.out.stay hx).cell 2; have q2 := (K2.out.stay hx).frozen 2; have d3 := (K1.out.stay hx).cell 3; have g3 := (K1.out.stay hx).frozen 3; have p3 := (K2.out.stay hx).cell 3; have q3 := (K2.out.stay hx).frozen 3; have d4 := (K1.out.stay hx).cell 4; have g4 := (K1.out.stay hx).frozen 4; have p4 := (K2.out.stay hx).cell 4; have q4 := (K2.out.stay hx).frozen 4; have d5 := (K1.out.stay hx).cell 5; have g5 := (K1.out.stay hx).frozen 5; have p5 := (K2.out.stay hx).cell 5; have q5 := (K2.out.stay hx).frozen 5; have d6 := (K1.out.stay hx).cell 6; have g6 := (K1.out.stay hx).frozen 6; have p6 := (K2.out.stay hx).cell 6; have q6 := (K2.out.stay hx).frozen 6; have KX := Lib.hid (K1.out.stay hx); have KY := Lib.hid (K2.out.stay hx); have HIN := Lib.hid hin; have HX := Lib.hid hx; clear ho hx hin)
  obtain ⟨W2, hW2⟩ : ∃ W2, W2 = ((w1.setCell ⟨w.heap.size + 1, 5, none⟩ (.int .i64 vep)).setCell ⟨w.heap.size + 1, 6, none⟩ (.slice A' vns.length c')) := ⟨_, rfl⟩
  have HKX2 : Hid (Blk W2 w.heap.size 40 #[.int .i64 0, .int .i64 0, .int .i64 0, .int .i64 0, .bool false, .int .i64 0, .slice none 0 0]) := by
    show Blk _ _ _ _
    rw [hW2]
    exact (KX.out.far (p := ⟨w.heap.size + 1, 5, none⟩) (show w.heap.size ≠ w.heap.size + 1 by omega) _).far (p := ⟨w.heap.size + 1, 6, none⟩) (show w.heap.size ≠ w.heap.size + 1 by omega) _
  have HIN2 : Hid (InS (fun g => w.heap.size ≤ g) W2 A' c' vns) := by
    show InS _ _ _ _ _
    rw [hW2]
    exact ((HIN.out.set KY.out (by decide) 5 _).set (KY.out.set 5 _) (by decide) 6 _).mono (fun g hg => Nat.le_trans HB.out.size hg)
  have HF2 : Hid (Ext w W2) := by
    show Ext _ _
    rw [hW2]
    exact Frm.step (Ext.trans HB.out HX.out) (Frm.tr (Frm.of_set (s := fun k => k = w.heap.size + 1) w1 ⟨w.heap.size + 1, 5, none⟩ (.int .i64 vep) rfl) (Frm.of_set _ ⟨w.heap.size + 1, 6, none⟩ (.slice A' vns.length c') rfl)) (Ext.trans HB.out HX.out).size (by rintro k rfl; omega)
  try rw [← hW2]
  have KA := Lib.hid (((((((HKX2.out.set 0 (.int .i64 pr)).set 1 (.int .i64 pn)).set 2 (.int .i64 ar)).set 3 (.int .i64 an)).set 4 (.bool has)).set 5 (.int .i64 vep)).set 6 (.slice A' vns.length c'))
  have hc0 := KA.out.cell 0
  have hc1 := KA.out.cell 1
  have hc2 := KA.out.cell 2
  have hc3 := KA.out.cell 3
  have hc4 := KA.out.cell 4
  have hc5 := KA.out.cell 5
  have hc6 := KA.out.cell 6
  have hE := hD.out (.returned (.agg #[.int .i64 pr, .int .i64 pn, .int .i64 ar, .int .i64 an, .bool has, .int .i64 vep, .slice A' vns.length c'])) _ ⟨A', c', rfl, (((((((HIN2.out.set HKX2.out (by decide) 0 (.int .i64 pr)).set (HKX2.out.set 0 (.int .i64 pr)) (by decide) 1 (.int .i64 pn)).set ((HKX2.out.set 0 (.int .i64 pr)).set 1 (.int .i64 pn)) (by decide) 2 (.int .i64 ar)).set (((HKX2.out.set 0 (.int .i64 pr)).set 1 (.int .i64 pn)).set 2 (.int .i64 ar)) (by decide) 3 (.int .i64 an)).set ((((HKX2.out.set 0 (.int .i64 pr)).set 1 (.int .i64 pn)).set 2 (.int .i64 ar)).set 3 (.int .i64 an)) (by decide) 4 (.bool has)).set (((((HKX2.out.set 0 (.int .i64 pr)).set 1 (.int .i64 pn)).set 2 (.int .i64 ar)).set 3 (.int .i64 an)).set 4 (.bool has)) (by decide) 5 (.int .i64 vep)).set ((((((HKX2.out.set 0 (.int .i64 pr)).set 1 (.int .i64 pn)).set 2 (.int .i64 ar)).set 3 (.int .i64 an)).set 4 (.bool has)).set 5 (.int .i64 vep)) (by decide) 6 (.slice A' vns.length c')), Frm.step HF2.out (Frm.tr (Frm.tr (Frm.tr (Frm.tr (Frm.tr (Frm.tr (Frm.of_set (s := fun k => k = w.heap.size) W2 ⟨w.heap.size, 0, none⟩ (.int .i64 pr) rfl) (Frm.of_set _ ⟨w.heap.size, 1, none⟩ (.int .i64 pn) rfl)) (Frm.of_set _ ⟨w.heap.size, 2, none⟩ (.int .i64 ar) rfl)) (Frm.of_set _ ⟨w.heap.size, 3, none⟩ (.int .i64 an) rfl)) (Frm.of_set _ ⟨w.heap.size, 4, none⟩ (.bool has) rfl)) (Frm.of_set _ ⟨w.heap.size, 5, none⟩ (.int .i64 vep) rfl)) (Frm.of_set _ ⟨w.heap.size, 6, none⟩ (.slice A' vns.length c') rfl)) HF2.out.size (by rintro k rfl; exact Nat.le_refl _)⟩
  exact bodyPost_ret (v := .agg #[.int .i64 pr, .int .i64 pn, .int .i64 ar, .int .i64 an, .bool has, .int .i64 vep, .slice A' vns.length c']) (by simp [results, Try.results29, go_sem, hc0, hc1, hc2, hc3, hc4, hc5, hc6]) rfl hE

set_option maxRecDepth 8000 in
set_option maxHeartbeats 16000000 in
theorem prep_okS (S : Nat → Prop) (a : Nat) (n kep : Int) (kns : List Int) (pr pn ar an : Int) (has : Bool) (vep : Int) (vns : List Int) (ep br bn : Int) (w : World) (H : AAtS S w a ⟨n, kep, kns, pr, pn, ar, an, has, vep, vns⟩) (hk0 : 0 ≤ kep ∧ kep ≤ 1073741824) (hr : prepE ⟨n, kep, kns, pr, pn, ar, an, has, vep, vns⟩ ep br bn = 0) (hvl : vns.length ≤ 1000000) :
    Calls Try.prog 27 #[pA a, .int .i64 ep, .agg #[.int .i64 br, .int .i64 bn]] w fun e w' => ∃ A c, e = .returned (.tuple #[.agg #[.int .i64 br, .int .i64 bn, .int .i64 ar, .int .i64 an, .bool has, .int .i64 vep, .slice A vns.length c], .int .i64 0]) ∧ InS (fun g => w.heap.size ≤ g) w' A c vns ∧ AAtS S w' a ⟨n, kep, kns, br, bn, ar, an, has, vep, vns⟩ ∧ Frm (oneA a) w w' := by
  refine hide_post fun D hD => ?_
  obtain ⟨w0, hw0⟩ : ∃ w0, w0 = ((((w.alloc (.cells #[pA a] 48)).alloc (.cells #[.int .i64 ep] 3)).alloc (.cells #[.int .i64 br, .int .i64 bn] 23)).alloc (.cells #[.int .i64 0, .int .i64 0, .int .i64 0, .int .i64 0, .bool false, .int .i64 0, .slice none 0 0] 40)) := ⟨_, rfl⟩
  have hb0 : Ext w w0 := by rw [hw0]; exact Ext.trans (Ext.trans (Ext.trans (Ext.trans (Ext.refl _) (ext_al _ _)) (ext_al _ _)) (ext_al _ _)) (ext_al _ _)
  have hz0 : w0.heap.size = w.heap.size + 4 := by rw [hw0]; simp
  have KgA : Hid (Blk w0 (w.heap.size) 48 #[pA a]) := by show Blk _ _ _ _; rw [hw0]; exact ((((Blk.new' _ _ _ _ (by simp)).alloc _).alloc _).alloc _)
  have KgE : Hid (Blk w0 (w.heap.size + 1) 3 #[.int .i64 ep]) := by show Blk _ _ _ _; rw [hw0]; exact (((Blk.new' _ _ _ _ (by simp)).alloc _).alloc _)
  have KgB : Hid (Blk w0 (w.heap.size + 1 + 1) 23 #[.int .i64 br, .int .i64 bn]) := by show Blk _ _ _ _; rw [hw0]; exact ((Blk.new' _ _ _ _ (by simp)).alloc _)
  have KgR : Hid (Blk w0 (w.heap.size + 1 + 1 + 1) 40 #[.int .i64 0, .int .i64 0, .int .i64 0, .int .i64 0, .bool false, .int .i64 0, .slice none 0 0]) := by show Blk _ _ _ _; rw [hw0]; exact (Blk.new' _ _ _ _ (by simp))
  have HW0 : Hid (∀ V, Calls Try.prog 53 #[.func (.func 54) #[] #[.pointer (some ⟨w.heap.size, 0, none⟩), .pointer (some ⟨w.heap.size + 1 + 1, 0, none⟩)], .int .i64 1] V fun r w' => ∃ g, r = .returned (.func (.func 87) #[] #[.pointer (some ⟨g, 0, none⟩), .pointer (some ⟨g + 1, 0, none⟩)]) ∧ Blk w' g 28 #[.func (.func 54) #[] #[.pointer (some ⟨w.heap.size, 0, none⟩), .pointer (some ⟨w.heap.size + 1 + 1, 0, none⟩)]] ∧ Blk w' (g + 1) 3 #[.int .i64 1] ∧ Ext V w') := fun V => when_any _ _ V ⟨_, _, rfl⟩
  have HW1 : Hid (∀ V, Calls Try.prog 53 #[.func (.func 55) #[] #[.pointer (some ⟨w.heap.size + 1, 0, none⟩), .pointer (some ⟨w.heap.size, 0, none⟩)], .int .i64 7] V fun r w' => ∃ g, r = .returned (.func (.func 87) #[] #[.pointer (some ⟨g, 0, none⟩), .pointer (some ⟨g + 1, 0, none⟩)]) ∧ Blk w' g 28 #[.func (.func 55) #[] #[.pointer (some ⟨w.heap.size + 1, 0, none⟩), .pointer (some ⟨w.heap.size, 0, none⟩)]] ∧ Blk w' (g + 1) 3 #[.int .i64 7] ∧ Ext V w') := fun V => when_any _ _ V ⟨_, _, rfl⟩
  have HW2 : Hid (∀ V, Calls Try.prog 53 #[.func (.func 56) #[] #[.pointer (some ⟨w.heap.size + 1, 0, none⟩), .pointer (some ⟨w.heap.size, 0, none⟩)], .int .i64 4] V fun r w' => ∃ g, r = .returned (.func (.func 87) #[] #[.pointer (some ⟨g, 0, none⟩), .pointer (some ⟨g + 1, 0, none⟩)]) ∧ Blk w' g 28 #[.func (.func 56) #[] #[.pointer (some ⟨w.heap.size + 1, 0, none⟩), .pointer (some ⟨w.heap.size, 0, none⟩)]] ∧ Blk w' (g + 1) 3 #[.int .i64 4] ∧ Ext V w') := fun V => when_any _ _ V ⟨_, _, rfl⟩
  have HW3 : Hid (∀ V, Calls Try.prog 53 #[.func (.func 57) #[] #[.pointer (some ⟨w.heap.size + 1 + 1, 0, none⟩), .pointer (some ⟨w.heap.size, 0, none⟩)], .int .i64 7] V fun r w' => ∃ g, r = .returned (.func (.func 87) #[] #[.pointer (some ⟨g, 0, none⟩), .pointer (some ⟨g + 1, 0, none⟩)]) ∧ Blk w' g 28 #[.func (.func 57) #[] #[.pointer (some ⟨w.heap.size + 1 + 1, 0, none⟩), .pointer (some ⟨w.heap.size, 0, none⟩)]] ∧ Blk w' (g + 1) 3 #[.int .i64 7] ∧ Ext V w') := fun V => when_any _ _ V ⟨_, _, rfl⟩
  have HK0 := Lib.hid hk0
  have H0 := Lib.hid H
  have HR := Lib.hid hr
  have HB := Lib.hid hb0
  have HW := Lib.hid hw0
  have hlt := H.lt
  have HVL := Lib.hid hvl
  have HLT : Hid (a < w.heap.size) := hlt
  clear hb0 hw0 hz0 hk0 H hr hvl hlt
  unfold pA at *
  go_enter Try.func27, Try.ntmps27
  go_wp2_with (first
    | (go_at_call 53; rw [← HW.out]; (with_reducible refine (HW0.out _).mono ?_); rintro e w1 ⟨u0, rfl, k, k', hx⟩; have K0 := Lib.hid k; have K0' := Lib.hid k'; have X0 : Hid (Ext w0 w1) := hx; clear k k' hx)
    | (go_at_call 53; (with_reducible refine (HW1.out _).mono ?_); rintro e w2 ⟨u1, rfl, k, k', hx⟩; have K1 := Lib.hid k; have K1' := Lib.hid k'; have X1 : Hid (Ext w1 w2) := hx; clear k k' hx)
    | (go_at_call 53; (with_reducible refine (HW2.out _).mono ?_); rintro e w3 ⟨u2, rfl, k, k', hx⟩; have K2 := Lib.hid k; have K2' := Lib.hid k'; have X2 : Hid (Ext w2 w3) := hx; clear k k' hx)
    | (go_at_call 53; (with_reducible refine (HW3.out _).mono ?_); rintro e w4 ⟨u3, rfl, k, k', hx⟩; have K3 := Lib.hid k; have K3' := Lib.hid k'; have X3 : Hid (Ext w3 w4) := hx; clear k k' hx)
    | (go_at_call 52; have hq := prep_first (w.heap.size) (w.heap.size + 1) (w.heap.size + 1 + 1) u0 u1 u2 u3 _ a _ ep br bn (w4.alloc (.cells #[.func (.func 87) #[] #[.pointer (some ⟨u0, 0, none⟩), .pointer (some ⟨u0 + 1, 0, none⟩)], .func (.func 87) #[] #[.pointer (some ⟨u1, 0, none⟩), .pointer (some ⟨u1 + 1, 0, none⟩)], .func (.func 87) #[] #[.pointer (some ⟨u2, 0, none⟩), .pointer (some ⟨u2 + 1, 0, none⟩)], .func (.func 87) #[] #[.pointer (some ⟨u3, 0, none⟩), .pointer (some ⟨u3 + 1, 0, none⟩)]] 95)) (H0.out.weak.stay (Ext.trans HB.out (Ext.trans (Ext.trans (Ext.trans (Ext.trans (Ext.trans (Ext.refl _) X0.out) X1.out) X2.out) X3.out) (ext_al _ (.cells #[.func (.func 87) #[] #[.pointer (some ⟨u0, 0, none⟩), .pointer (some ⟨u0 + 1, 0, none⟩)], .func (.func 87) #[] #[.pointer (some ⟨u1, 0, none⟩), .pointer (some ⟨u1 + 1, 0, none⟩)], .func (.func 87) #[] #[.pointer (some ⟨u2, 0, none⟩), .pointer (some ⟨u2 + 1, 0, none⟩)], .func (.func 87) #[] #[.pointer (some ⟨u3, 0, none⟩), .pointer (some ⟨u3 + 1, 0, none⟩)]] 95))))) HK0.out (KgA.out.stay (Ext.trans (Ext.trans (Ext.trans (Ext.trans (Ext.trans (Ext.refl _) X0.out) X1.out) X2.out) X3.out) (ext_al _ (.cells #[.func (.func 87) #[] #[.pointer (some ⟨u0, 0, none⟩), .pointer (some ⟨u0 + 1, 0, none⟩)], .func (.func 87) #[] #[.pointer (some ⟨u1, 0, none⟩), .pointer (some ⟨u1 + 1, 0, none⟩)], .func (.func 87) #[] #[.pointer (some ⟨u2, 0, none⟩), .pointer (some ⟨u2 + 1, 0, none⟩)], .func (.func 87) #[] #[.pointer (some ⟨u3, 0, none⟩), .pointer (some ⟨u3 + 1, 0, none⟩)]] 95)))) (KgE.out.stay (Ext.trans (Ext.trans (Ext.trans (Ext.trans (Ext.trans (Ext.refl _) X0.out) X1.out) X2.out) X3.out) (ext_al _ (.cells #[.func (.func 87) #[] #[.pointer (some ⟨u0, 0, none⟩), .pointer (some ⟨u0 + 1, 0, none⟩)], .func (.func 87) #[] #[.pointer (some ⟨u1, 0, none⟩), .pointer (some ⟨u1 + 1, 0, none⟩)], .func (.func 87) #[] #[.pointer (some ⟨u2, 0, none⟩), .pointer (some ⟨u2 + 1, 0, none⟩)], .func (.func 87) #[] #[.pointer (some ⟨u3, 0, none⟩), .pointer (some ⟨u3 + 1, 0, none⟩)]] 95)))) (KgB.out.stay (Ext.trans (Ext.trans (Ext.trans (Ext.trans (Ext.trans (Ext.refl _) X0.out) X1.out) X2.out) X3.out) (ext_al _ (.cells #[.func (.func 87) #[] #[.pointer (some ⟨u0, 0, none⟩), .pointer (some ⟨u0 + 1, 0, none⟩)], .func (.func 87) #[] #[.pointer (some ⟨u1, 0, none⟩), .pointer (some ⟨u1 + 1, 0, none⟩)], .func (.func 87) #[] #[.pointer (some ⟨u2, 0, none⟩), .pointer (some ⟨u2 + 1, 0, none⟩)], .func (.func 87) #[] #[.pointer (some ⟨u3, 0, none⟩), .pointer (some ⟨u3 + 1, 0, none⟩)]] 95)))) (K0.out.stay (Ext.trans (Ext.trans (Ext.trans (Ext.trans (Ext.refl _) X1.out) X2.out) X3.out) (ext_al _ (.cells #[.func (.func 87) #[] #[.pointer (some ⟨u0, 0, none⟩), .pointer (some ⟨u0 + 1, 0, none⟩)], .func (.func 87) #[] #[.pointer (some ⟨u1, 0, none⟩), .pointer (some ⟨u1 + 1, 0, none⟩)], .func (.func 87) #[] #[.pointer (some ⟨u2, 0, none⟩), .pointer (some ⟨u2 + 1, 0, none⟩)], .func (.func 87) #[] #[.pointer (some ⟨u3, 0, none⟩), .pointer (some ⟨u3 + 1, 0, none⟩)]] 95)))) (K0'.out.stay (Ext.trans (Ext.trans (Ext.trans (Ext.trans (Ext.refl _) X1.out) X2.out) X3.out) (ext_al _ (.cells #[.func (.func 87) #[] #[.pointer (some ⟨u0, 0, none⟩), .pointer (some ⟨u0 + 1, 0, none⟩)], .func (.func 87) #[] #[.pointer (some ⟨u1, 0, none⟩), .pointer (some ⟨u1 + 1, 0, none⟩)], .func (.func 87) #[] #[.pointer (some ⟨u2, 0, none⟩), .pointer (some ⟨u2 + 1, 0, none⟩)], .func (.func 87) #[] #[.pointer (some ⟨u3, 0, none⟩), .pointer (some ⟨u3 + 1, 0, none⟩)]] 95)))) (K1.out.stay (Ext.trans (Ext.trans (Ext.trans (Ext.refl _) X2.out) X3.out) (ext_al _ (.cells #[.func (.func 87) #[] #[.pointer (some ⟨u0, 0, none⟩), .pointer (some ⟨u0 + 1, 0, none⟩)], .func (.func 87) #[] #[.pointer (some ⟨u1, 0, none⟩), .pointer (some ⟨u1 + 1, 0, none⟩)], .func (.func 87) #[] #[.pointer (some ⟨u2, 0, none⟩), .pointer (some ⟨u2 + 1, 0, none⟩)], .func (.func 87) #[] #[.pointer (some ⟨u3, 0, none⟩), .pointer (some ⟨u3 + 1, 0, none⟩)]] 95)))) (K1'.out.stay (Ext.trans (Ext.trans (Ext.trans (Ext.refl _) X2.out) X3.out) (ext_al _ (.cells #[.func (.func 87) #[] #[.pointer (some ⟨u0, 0, none⟩), .pointer (some ⟨u0 + 1, 0, none⟩)], .func (.func 87) #[] #[.pointer (some ⟨u1, 0, none⟩), .pointer (some ⟨u1 + 1, 0, none⟩)], .func (.func 87) #[] #[.pointer (some ⟨u2, 0, none⟩), .pointer (some ⟨u2 + 1, 0, none⟩)], .func (.func 87) #[] #[.pointer (some ⟨u3, 0, none⟩), .pointer (some ⟨u3 + 1, 0, none⟩)]] 95)))) (K2.out.stay (Ext.trans (Ext.trans (Ext.refl _) X3.out) (ext_al _ (.cells #[.func (.func 87) #[] #[.pointer (some ⟨u0, 0, none⟩), .pointer (some ⟨u0 + 1, 0, none⟩)], .func (.func 87) #[] #[.pointer (some ⟨u1, 0, none⟩), .pointer (some ⟨u1 + 1, 0, none⟩)], .func (.func 87) #[] #[.pointer (some ⟨u2, 0, none⟩), .pointer (some ⟨u2 + 1, 0, none⟩)], .func (.func 87) #[] #[.pointer (some ⟨u3, 0, none⟩), .pointer (some ⟨u3 + 1, 0, none⟩)]] 95)))) (K2'.out.stay (Ext.trans (Ext.trans (Ext.refl _) X3.out) (ext_al _ (.cells #[.func (.func 87) #[] #[.pointer (some ⟨u0, 0, none⟩), .pointer (some ⟨u0 + 1, 0, none⟩)], .func (.func 87) #[] #[.pointer (some ⟨u1, 0, none⟩), .pointer (some ⟨u1 + 1, 0, none⟩)], .func (.func 87) #[] #[.pointer (some ⟨u2, 0, none⟩), .pointer (some ⟨u2 + 1, 0, none⟩)], .func (.func 87) #[] #[.pointer (some ⟨u3, 0, none⟩), .pointer (some ⟨u3 + 1, 0, none⟩)]] 95)))) (K3.out.stay (Ext.trans (Ext.refl _) (ext_al _ (.cells #[.func (.func 87) #[] #[.pointer (some ⟨u0, 0, none⟩), .pointer (some ⟨u0 + 1, 0, none⟩)], .func (.func 87) #[] #[.pointer (some ⟨u1, 0, none⟩), .pointer (some ⟨u1 + 1, 0, none⟩)], .func (.func 87) #[] #[.pointer (some ⟨u2, 0, none⟩), .pointer (some ⟨u2 + 1, 0, none⟩)], .func (.func 87) #[] #[.pointer (some ⟨u3, 0, none⟩), .pointer (some ⟨u3 + 1, 0, none⟩)]] 95)))) (K3'.out.stay (Ext.trans (Ext.refl _) (ext_al _ (.cells #[.func (.func 87) #[] #[.pointer (some ⟨u0, 0, none⟩), .pointer (some ⟨u0 + 1, 0, none⟩)], .func (.func 87) #[] #[.pointer (some ⟨u1, 0, none⟩), .pointer (some ⟨u1 + 1, 0, none⟩)], .func (.func 87) #[] #[.pointer (some ⟨u2, 0, none⟩), .pointer (some ⟨u2 + 1, 0, none⟩)], .func (.func 87) #[] #[.pointer (some ⟨u3, 0, none⟩), .pointer (some ⟨u3 + 1, 0, none⟩)]] 95)))) (Blk.new _ _ _) _ HR.out; (with_reducible refine hq.mono ?_); clear hq; rintro e wf ⟨rfl, hx⟩; have XF : Hid (Ext w0 wf) := Ext.trans (Ext.trans (Ext.trans (Ext.trans (Ext.trans (Ext.trans (Ext.refl _) X0.out) X1.out) X2.out) X3.out) (ext_al _ (.cells #[.func (.func 87) #[] #[.pointer (some ⟨u0, 0, none⟩), .pointer (some ⟨u0 + 1, 0, none⟩)], .func (.func 87) #[] #[.pointer (some ⟨u1, 0, none⟩), .pointer (some ⟨u1 + 1, 0, none⟩)], .func (.func 87) #[] #[.pointer (some ⟨u2, 0, none⟩), .pointer (some ⟨u2 + 1, 0, none⟩)], .func (.func 87) #[] #[.pointer (some ⟨u3, 0, none⟩), .pointer (some ⟨u3 + 1, 0, none⟩)]] 95))) hx; clear hx; obtain ⟨kA, kc, vA, vc, kB, hk, hv⟩ := H0.out.stay (Ext.trans HB.out XF.out); have bA0 := (KgA.out.stay XF.out).cell 0; have bB0 := (KgB.out.stay XF.out).cell 0; have bB1 := (KgB.out.stay XF.out).cell 1; have a3 : wf.cell? ⟨a, 3, none⟩ = some (.int .i64 pr) := kB.cell 3; have a4 : wf.cell? ⟨a, 4, none⟩ = some (.int .i64 pn) := kB.cell 4; have f3 := kB.frozen 3; have f4 := kB.frozen 4; simp at bA0 bB0 bB1; have na : a ≠ (w.heap.size) := (by have := HLT.out; omega); have na2 : a ≠ (w.heap.size + 1 + 1) := (by have := HLT.out; omega); have KB := Lib.hid kB; have HK := Lib.hid hk; have HV := Lib.hid hv; have HA5 := Lib.hid (H0.out.stay (Ext.trans HB.out XF.out)); have F6 : Hid (Frm (oneA a) wf ((wf.setCell ⟨a, 3, none⟩ (.int .i64 br)).setCell ⟨a, 4, none⟩ (.int .i64 bn))) := Frm.tr (Frm.of_set _ _ _ rfl) (Frm.of_set _ _ _ rfl); have A6 : Hid (AAtS S ((wf.setCell ⟨a, 3, none⟩ (.int .i64 br)).setCell ⟨a, 4, none⟩ (.int .i64 bn)) a ⟨n, kep, kns, br, bn, ar, an, has, vep, vns⟩) := ⟨kA, kc, vA, vc, (kB.set 3 (.int .i64 br)).set 4 (.int .i64 bn), hk.other HA5.out F6.out, hv.other HA5.out F6.out⟩; clear kB hk hv; have q6 : Hid (Blk ((wf.setCell ⟨a, 3, none⟩ (.int .i64 br)).setCell ⟨a, 4, none⟩ (.int .i64 bn)) (w.heap.size + 1 + 1 + 1) 40 #[.int .i64 0, .int .i64 0, .int .i64 0, .int .i64 0, .bool false, .int .i64 0, .slice none 0 0]) := (KgR.out.stay XF.out).frm F6.out (show ¬ (w.heap.size + 1 + 1 + 1) = a by have := HLT.out; omega))
    | (go_at_call 29; have hq := vote_anyS a _ _ A6.out.weak HVL.out; (with_reducible refine hq.mono ?_); clear hq; rintro e w7 ⟨A', c', rfl, hin, hx⟩; have rc0 := (q6.out.stay hx).cell 0; have rf0 := (q6.out.stay hx).frozen 0; have rc1 := (q6.out.stay hx).cell 1; have rf1 := (q6.out.stay hx).frozen 1; have rc2 := (q6.out.stay hx).cell 2; have rf2 := (q6.out.stay hx).frozen 2; have rc3 := (q6.out.stay hx).cell 3; have rf3 := (q6.out.stay hx).frozen 3; have rc4 := (q6.out.stay hx).cell 4; have rf4 := (q6.out.stay hx).frozen 4; have rc5 := (q6.out.stay hx).cell 5; have rf5 := (q6.out.stay hx).frozen 5; have rc6 := (q6.out.stay hx).cell 6; have rf6 := (q6.out.stay hx).frozen 6; have KR := Lib.hid (q6.out.stay hx); have HIN := Lib.hid hin; have A7 := Lib.hid (A6.out.stay hx); have X7 := Lib.hid hx; clear hx hin))
  have F8 : Hid (Frm (fun k => k = (w.heap.size + 1 + 1 + 1)) w7 (((((((w7.setCell ⟨(w.heap.size + 1 + 1 + 1), 0, none⟩ (.int .i64 br)).setCell ⟨(w.heap.size + 1 + 1 + 1), 1, none⟩ (.int .i64 bn)).setCell ⟨(w.heap.size + 1 + 1 + 1), 2, none⟩ (.int .i64 ar)).setCell ⟨(w.heap.size + 1 + 1 + 1), 3, none⟩ (.int .i64 an)).setCell ⟨(w.heap.size + 1 + 1 + 1), 4, none⟩ (.bool has)).setCell ⟨(w.heap.size + 1 + 1 + 1), 5, none⟩ (.int .i64 vep)).setCell ⟨(w.heap.size + 1 + 1 + 1), 6, none⟩ (.slice A' vns.length c'))) := Frm.tr (Frm.tr (Frm.tr (Frm.tr (Frm.tr (Frm.tr (Frm.tr (Frm.refl (fun k => k = (w.heap.size + 1 + 1 + 1)) w7) (Frm.of_set _ ⟨(w.heap.size + 1 + 1 + 1), 0, none⟩ (.int .i64 br) rfl)) (Frm.of_set _ ⟨(w.heap.size + 1 + 1 + 1), 1, none⟩ (.int .i64 bn) rfl)) (Frm.of_set _ ⟨(w.heap.size + 1 + 1 + 1), 2, none⟩ (.int .i64 ar) rfl)) (Frm.of_set _ ⟨(w.heap.size + 1 + 1 + 1), 3, none⟩ (.int .i64 an) rfl)) (Frm.of_set _ ⟨(w.heap.size + 1 + 1 + 1), 4, none⟩ (.bool has) rfl)) (Frm.of_set _ ⟨(w.heap.size + 1 + 1 + 1), 5, none⟩ (.int .i64 vep) rfl)) (Frm.of_set _ ⟨(w.heap.size + 1 + 1 + 1), 6, none⟩ (.slice A' vns.length c') rfl)
  have KA := Lib.hid ((((((((KR.out.set 0 (.int .i64 br)).set 1 (.int .i64 bn)).set 2 (.int .i64 ar)).set 3 (.int .i64 an)).set 4 (.bool has)).set 5 (.int .i64 vep)).set 6 (.slice A' vns.length c')))
  have hc0 := KA.out.cell 0
  have hc1 := KA.out.cell 1
  have hc2 := KA.out.cell 2
  have hc3 := KA.out.cell 3
  have hc4 := KA.out.cell 4
  have hc5 := KA.out.cell 5
  have hc6 := KA.out.cell 6
  have hni : ∀ g cs, Blk w7 g 3 cs → ¬ g = (w.heap.size + 1 + 1 + 1) := fun g cs hb e => Blk.apart hb KR.out (by decide) e
  have hE := hD.out (.returned (.tuple #[.agg #[.int .i64 br, .int .i64 bn, .int .i64 ar, .int .i64 an, .bool has, .int .i64 vep, .slice A' vns.length c'], .int .i64 0])) _ ⟨A', c', rfl, (HIN.out.frm F8.out hni).mono (fun g hg => Nat.le_trans (Frm.tr (Frm.of_below (Ext.trans HB.out XF.out) (oneA a)) F6.out).size hg), A7.out.frm F8.out (show ¬ a = (w.heap.size + 1 + 1 + 1) by have := HLT.out; omega) hni, Frm.drop (s := fun k => k = a ∨ k = (w.heap.size + 1 + 1 + 1)) (Frm.tr (Frm.tr (Frm.of_below (Ext.trans HB.out XF.out) _) (F6.out.mono (fun k hk => Or.inl hk))) (Frm.tr (Frm.of_below X7.out _) (F8.out.mono (fun k hk => Or.inr hk)))) (fun k hk h => by rcases h with h | h; exact h; omega)⟩
  exact bodyPost_ret (v := .tuple #[.agg #[.int .i64 br, .int .i64 bn, .int .i64 ar, .int .i64 an, .bool has, .int .i64 vep, .slice A' vns.length c'], .int .i64 0]) (by simp [results, Try.results27, go_sem, hc0, hc1, hc2, hc3, hc4, hc5, hc6]) rfl hE

set_option maxRecDepth 8000 in
set_option maxHeartbeats 16000000 in
theorem acc_okS (S : Nat → Prop) (a : Nat) (n kep : Int) (kns : List Int) (pr pn ar an : Int) (has : Bool) (vep : Int) (vns : List Int) (ep br bn : Int) (A : Option Addr) (cap : Nat) (l : List Int) (veto : Bool) (w : World) (H : AAtS S w a ⟨n, kep, kns, pr, pn, ar, an, has, vep, vns⟩) (hl : l.length ≤ 1000000) (hcap : l.length ≤ cap) (hs : Sl i64 w A l) (hk0 : 0 ≤ kep ∧ kep ≤ 1073741824) (hkl : kns.length ≤ 1000000) (hr : accE ⟨n, kep, kns, pr, pn, ar, an, has, vep, vns⟩ ep l br bn veto = 0) (hna : ∀ ad, A = some ad → ¬ ad.block = a) :
    Calls Try.prog 32 #[pA a, .agg #[.int .i64 ep, .slice A l.length cap], .agg #[.int .i64 br, .int .i64 bn], .bool veto] w fun e w' => e = .returned (.int .i64 0) ∧ AAtS (fun g => S g ∨ w.heap.size ≤ g) w' a ⟨n, kep, kns, br, bn, br, bn, true, ep, l⟩ ∧ Frm (oneA a) w w' := by
  refine hide_post fun D hD => ?_
  obtain ⟨w0, hw0⟩ : ∃ w0, w0 = ((((w.alloc (.cells #[pA a] 48)).alloc (.cells #[.int .i64 ep, .slice A l.length cap] 26)).alloc (.cells #[.int .i64 br, .int .i64 bn] 23)).alloc (.cells #[.bool veto] 4)) := ⟨_, rfl⟩
  have hb0 : Ext w w0 := by rw [hw0]; exact Ext.trans (Ext.trans (Ext.trans (Ext.trans (Ext.refl _) (ext_al _ _)) (ext_al _ _)) (ext_al _ _)) (ext_al _ _)
  have hz0 : w0.heap.size = w.heap.size + 4 := by rw [hw0]; simp
  have KgA : Hid (Blk w0 (w.heap.size) 48 #[pA a]) := by show Blk _ _ _ _; rw [hw0]; exact ((((Blk.new' _ _ _ _ (by simp)).alloc _).alloc _).alloc _)
  have KgC : Hid (Blk w0 (w.heap.size + 1) 26 #[.int .i64 ep, .slice A l.length cap]) := by show Blk _ _ _ _; rw [hw0]; exact (((Blk.new' _ _ _ _ (by simp)).alloc _).alloc _)
  have KgB : Hid (Blk w0 (w.heap.size + 1 + 1) 23 #[.int .i64 br, .int .i64 bn]) := by show Blk _ _ _ _; rw [hw0]; exact ((Blk.new' _ _ _ _ (by simp)).alloc _)
  have KgV : Hid (Blk w0 (w.heap.size + 1 + 1 + 1) 4 #[.bool veto]) := by show Blk _ _ _ _; rw [hw0]; exact (Blk.new' _ _ _ _ (by simp))
  have HW0 : Hid (∀ V, Calls Try.prog 53 #[.func (.func 62) #[] #[.pointer (some ⟨w.heap.size, 0, none⟩), .pointer (some ⟨w.heap.size + 1 + 1, 0, none⟩), .pointer (some ⟨w.heap.size + 1, 0, none⟩)], .int .i64 1] V fun r w' => ∃ g, r = .returned (.func (.func 87) #[] #[.pointer (some ⟨g, 0, none⟩), .pointer (some ⟨g + 1, 0, none⟩)]) ∧ Blk w' g 28 #[.func (.func 62) #[] #[.pointer (some ⟨w.heap.size, 0, none⟩), .pointer (some ⟨w.heap.size + 1 + 1, 0, none⟩), .pointer (some ⟨w.heap.size + 1, 0, none⟩)]] ∧ Blk w' (g + 1) 3 #[.int .i64 1] ∧ Ext V w') := fun V => when_any _ _ V ⟨_, _, rfl⟩
  have HW1 : Hid (∀ V, Calls Try.prog 53 #[.func (.func 63) #[] #[.pointer (some ⟨w.heap.size + 1, 0, none⟩), .pointer (some ⟨w.heap.size, 0, none⟩)], .int .i64 7] V fun r w' => ∃ g, r = .returned (.func (.func 87) #[] #[.pointer (some ⟨g, 0, none⟩), .pointer (some ⟨g + 1, 0, none⟩)]) ∧ Blk w' g 28 #[.func (.func 63) #[] #[.pointer (some ⟨w.heap.size + 1, 0, none⟩), .pointer (some ⟨w.heap.size, 0, none⟩)]] ∧ Blk w' (g + 1) 3 #[.int .i64 7] ∧ Ext V w') := fun V => when_any _ _ V ⟨_, _, rfl⟩
  have HW2 : Hid (∀ V, Calls Try.prog 53 #[.func (.func 64) #[] #[.pointer (some ⟨w.heap.size + 1, 0, none⟩), .pointer (some ⟨w.heap.size, 0, none⟩)], .int .i64 4] V fun r w' => ∃ g, r = .returned (.func (.func 87) #[] #[.pointer (some ⟨g, 0, none⟩), .pointer (some ⟨g + 1, 0, none⟩)]) ∧ Blk w' g 28 #[.func (.func 64) #[] #[.pointer (some ⟨w.heap.size + 1, 0, none⟩), .pointer (some ⟨w.heap.size, 0, none⟩)]] ∧ Blk w' (g + 1) 3 #[.int .i64 4] ∧ Ext V w') := fun V => when_any _ _ V ⟨_, _, rfl⟩
  have HW3 : Hid (∀ V, Calls Try.prog 53 #[.func (.func 65) #[] #[.pointer (some ⟨w.heap.size, 0, none⟩), .pointer (some ⟨w.heap.size + 1, 0, none⟩)], .int .i64 1] V fun r w' => ∃ g, r = .returned (.func (.func 87) #[] #[.pointer (some ⟨g, 0, none⟩), .pointer (some ⟨g + 1, 0, none⟩)]) ∧ Blk w' g 28 #[.func (.func 65) #[] #[.pointer (some ⟨w.heap.size, 0, none⟩), .pointer (some ⟨w.heap.size + 1, 0, none⟩)]] ∧ Blk w' (g + 1) 3 #[.int .i64 1] ∧ Ext V w') := fun V => when_any _ _ V ⟨_, _, rfl⟩
  have HW4 : Hid (∀ V, Calls Try.prog 53 #[.func (.func 67) #[] #[.pointer (some ⟨w.heap.size + 1 + 1, 0, none⟩), .pointer (some ⟨w.heap.size, 0, none⟩)], .int .i64 7] V fun r w' => ∃ g, r = .returned (.func (.func 87) #[] #[.pointer (some ⟨g, 0, none⟩), .pointer (some ⟨g + 1, 0, none⟩)]) ∧ Blk w' g 28 #[.func (.func 67) #[] #[.pointer (some ⟨w.heap.size + 1 + 1, 0, none⟩), .pointer (some ⟨w.heap.size, 0, none⟩)]] ∧ Blk w' (g + 1) 3 #[.int .i64 7] ∧ Ext V w') := fun V => when_any _ _ V ⟨_, _, rfl⟩
  have HW5 : Hid (∀ V, Calls Try.prog 53 #[.func (.func 68) #[] #[.pointer (some ⟨w.heap.size + 1 + 1 + 1, 0, none⟩)], .int .i64 8] V fun r w' => ∃ g, r = .returned (.func (.func 87) #[] #[.pointer (some ⟨g, 0, none⟩), .pointer (some ⟨g + 1, 0, none⟩)]) ∧ Blk w' g 28 #[.func (.func 68) #[] #[.pointer (some ⟨w.heap.size + 1 + 1 + 1, 0, none⟩)]] ∧ Blk w' (g + 1) 3 #[.int .i64 8] ∧ Ext V w') := fun V => when_any _ _ V ⟨_, _, rfl⟩
  have HL := Lib.hid hl
  have HCAP := Lib.hid hcap
  have HS := Lib.hid hs
  have HK0 := Lib.hid hk0
  have HKL := Lib.hid hkl
  have H0 := Lib.hid H
  have HR := Lib.hid hr
  have HB := Lib.hid hb0
  have HW := Lib.hid hw0
  have hlt := H.lt
  obtain ⟨N, hN⟩ : ∃ N, N = l.length := ⟨_, rfl⟩
  have HN := Lib.hid hN
  have HNA := Lib.hid hna
  have HLT : Hid (a < w.heap.size) := hlt
  clear hb0 hw0 hz0 hl hcap hs hk0 hkl H hr hlt hN hna
  unfold pA at *
  go_enter Try.func32, Try.ntmps32
  go_wp2_with (first
    | (go_at_call 53; rw [← HW.out]; (with_reducible refine (HW0.out _).mono ?_); rintro e w1 ⟨u0, rfl, k, k', hx⟩; have K0 := Lib.hid k; have K0' := Lib.hid k'; have X0 : Hid (Ext w0 w1) := hx; clear k k' hx)
    | (go_at_call 53; (with_reducible refine (HW1.out _).mono ?_); rintro e w2 ⟨u1, rfl, k, k', hx⟩; have K1 := Lib.hid k; have K1' := Lib.hid k'; have X1 : Hid (Ext w1 w2) := hx; clear k k' hx)
    | (go_at_call 53; (with_reducible refine (HW2.out _).mono ?_); rintro e w3 ⟨u2, rfl, k, k', hx⟩; have K2 := Lib.hid k; have K2' := Lib.hid k'; have X2 : Hid (Ext w2 w3) := hx; clear k k' hx)
    | (go_at_call 53; (with_reducible refine (HW3.out _).mono ?_); rintro e w4 ⟨u3, rfl, k, k', hx⟩; have K3 := Lib.hid k; have K3' := Lib.hid k'; have X3 : Hid (Ext w3 w4) := hx; clear k k' hx)
    | (go_at_call 53; (with_reducible refine (HW4.out _).mono ?_); rintro e w5 ⟨u4, rfl, k, k', hx⟩; have K4 := Lib.hid k; have K4' := Lib.hid k'; have X4 : Hid (Ext w4 w5) := hx; clear k k' hx)
    | (go_at_call 53; (with_reducible refine (HW5.out _).mono ?_); rintro e w6 ⟨u5, rfl, k, k', hx⟩; have K5 := Lib.hid k; have K5' := Lib.hid k'; have X5 : Hid (Ext w5 w6) := hx; clear k k' hx)
    | (go_at_call 52; have hq := acc_first (w.heap.size) (w.heap.size + 1) (w.heap.size + 1 + 1) (w.heap.size + 1 + 1 + 1) u0 u1 u2 u3 u4 u5 _ a _ ep br bn A cap l veto (w6.alloc (.cells #[.func (.func 87) #[] #[.pointer (some ⟨u0, 0, none⟩), .pointer (some ⟨u0 + 1, 0, none⟩)], .func (.func 87) #[] #[.pointer (some ⟨u1, 0, none⟩), .pointer (some ⟨u1 + 1, 0, none⟩)], .func (.func 87) #[] #[.pointer (some ⟨u2, 0, none⟩), .pointer (some ⟨u2 + 1, 0, none⟩)], .func (.func 87) #[] #[.pointer (some ⟨u3, 0, none⟩), .pointer (some ⟨u3 + 1, 0, none⟩)], .func (.func 87) #[] #[.pointer (some ⟨u4, 0, none⟩), .pointer (some ⟨u4 + 1, 0, none⟩)], .func (.func 87) #[] #[.pointer (some ⟨u5, 0, none⟩), .pointer (some ⟨u5 + 1, 0, none⟩)]] 95)) (H0.out.weak.stay (Ext.trans HB.out (Ext.trans (Ext.trans (Ext.trans (Ext.trans (Ext.trans (Ext.trans (Ext.trans (Ext.refl _) X0.out) X1.out) X2.out) X3.out) X4.out) X5.out) (ext_al _ (.cells #[.func (.func 87) #[] #[.pointer (some ⟨u0, 0, none⟩), .pointer (some ⟨u0 + 1, 0, none⟩)], .func (.func 87) #[] #[.pointer (some ⟨u1, 0, none⟩), .pointer (some ⟨u1 + 1, 0, none⟩)], .func (.func 87) #[] #[.pointer (some ⟨u2, 0, none⟩), .pointer (some ⟨u2 + 1, 0, none⟩)], .func (.func 87) #[] #[.pointer (some ⟨u3, 0, none⟩), .pointer (some ⟨u3 + 1, 0, none⟩)], .func (.func 87) #[] #[.pointer (some ⟨u4, 0, none⟩), .pointer (some ⟨u4 + 1, 0, none⟩)], .func (.func 87) #[] #[.pointer (some ⟨u5, 0, none⟩), .pointer (some ⟨u5 + 1, 0, none⟩)]] 95))))) HL.out HCAP.out (HS.out.stay (Ext.trans HB.out (Ext.trans (Ext.trans (Ext.trans (Ext.trans (Ext.trans (Ext.trans (Ext.trans (Ext.refl _) X0.out) X1.out) X2.out) X3.out) X4.out) X5.out) (ext_al _ (.cells #[.func (.func 87) #[] #[.pointer (some ⟨u0, 0, none⟩), .pointer (some ⟨u0 + 1, 0, none⟩)], .func (.func 87) #[] #[.pointer (some ⟨u1, 0, none⟩), .pointer (some ⟨u1 + 1, 0, none⟩)], .func (.func 87) #[] #[.pointer (some ⟨u2, 0, none⟩), .pointer (some ⟨u2 + 1, 0, none⟩)], .func (.func 87) #[] #[.pointer (some ⟨u3, 0, none⟩), .pointer (some ⟨u3 + 1, 0, none⟩)], .func (.func 87) #[] #[.pointer (some ⟨u4, 0, none⟩), .pointer (some ⟨u4 + 1, 0, none⟩)], .func (.func 87) #[] #[.pointer (some ⟨u5, 0, none⟩), .pointer (some ⟨u5 + 1, 0, none⟩)]] 95))))) HK0.out HKL.out (KgA.out.stay (Ext.trans (Ext.trans (Ext.trans (Ext.trans (Ext.trans (Ext.trans (Ext.trans (Ext.refl _) X0.out) X1.out) X2.out) X3.out) X4.out) X5.out) (ext_al _ (.cells #[.func (.func 87) #[] #[.pointer (some ⟨u0, 0, none⟩), .pointer (some ⟨u0 + 1, 0, none⟩)], .func (.func 87) #[] #[.pointer (some ⟨u1, 0, none⟩), .pointer (some ⟨u1 + 1, 0, none⟩)], .func (.func 87) #[] #[.pointer (some ⟨u2, 0, none⟩), .pointer (some ⟨u2 + 1, 0, none⟩)], .func (.func 87) #[] #[.pointer (some ⟨u3, 0, none⟩), .pointer (some ⟨u3 + 1, 0, none⟩)], .func (.func 87) #[] #[.pointer (some ⟨u4, 0, none⟩), .pointer (some ⟨u4 + 1, 0, none⟩)], .func (.func 87) #[] #[.pointer (some ⟨u5, 0, none⟩), .pointer (some ⟨u5 + 1, 0, none⟩)]] 95)))) (KgC.out.stay (Ext.trans (Ext.trans (Ext.trans (Ext.trans (Ext.trans (Ext.trans (Ext.trans (Ext.refl _) X0.out) X1.out) X2.out) X3.out) X4.out) X5.out) (ext_al _ (.cells #[.func (.func 87) #[] #[.pointer (some ⟨u0, 0, none⟩), .pointer (some ⟨u0 + 1, 0, none⟩)], .func (.func 87) #[] #[.pointer (some ⟨u1, 0, none⟩), .pointer (some ⟨u1 + 1, 0, none⟩)], .func (.func 87) #[] #[.pointer (some ⟨u2, 0, none⟩), .pointer (some ⟨u2 + 1, 0, none⟩)], .func (.func 87) #[] #[.pointer (some ⟨u3, 0, none⟩), .pointer (some ⟨u3 + 1, 0, none⟩)], .func (.func 87) #[] #[.pointer (some ⟨u4, 0, none⟩), .pointer (some ⟨u4 + 1, 0, none⟩)], .func (.func 87) #[] #[.pointer (some ⟨u5, 0, none⟩), .pointer (some ⟨u5 + 1, 0, none⟩)]] 95)))) (KgB.out.stay (Ext.trans (Ext.trans (Ext.trans (Ext.trans (Ext.trans (Ext.trans (Ext.trans (Ext.refl _) X0.out) X1.out) X2.out) X3.out) X4.out) X5.out) (ext_al _ (.cells #[.func (.func 87) #[] #[.pointer (some ⟨u0, 0, none⟩), .pointer (some ⟨u0 + 1, 0, none⟩)], .func (.func 87) #[] #[.pointer (some ⟨u1, 0, none⟩), .pointer (some ⟨u1 + 1, 0, none⟩)], .func (.func 87) #[] #[.pointer (some ⟨u2, 0, none⟩), .pointer (some ⟨u2 + 1, 0, none⟩)], .func (.func 87) #[] #[.pointer (some ⟨u3, 0, none⟩), .pointer (some ⟨u3 + 1, 0, none⟩)], .func (.func 87) #[] #[.pointer (some ⟨u4, 0, none⟩), .pointer (some ⟨u4 + 1, 0, none⟩)], .func (.func 87) #[] #[.pointer (some ⟨u5, 0, none⟩), .pointer (some ⟨u5 + 1, 0, none⟩)]] 95)))) (KgV.out.stay (Ext.trans (Ext.trans (Ext.trans (Ext.trans (Ext.trans (Ext.trans (Ext.trans (Ext.refl _) X0.out) X1.out) X2.out) X3.out) X4.out) X5.out) (ext_al _ (.cells #[.func (.func 87) #[] #[.pointer (some ⟨u0, 0, none⟩), .pointer (some ⟨u0 + 1, 0, none⟩)], .func (.func 87) #[] #[.pointer (some ⟨u1, 0, none⟩), .pointer (some ⟨u1 + 1, 0, none⟩)], .func (.func 87) #[] #[.pointer (some ⟨u2, 0, none⟩), .pointer (some ⟨u2 + 1, 0, none⟩)], .func (.func 87) #[] #[.pointer (some ⟨u3, 0, none⟩), .pointer (some ⟨u3 + 1, 0, none⟩)], .func (.func 87) #[] #[.pointer (some ⟨u4, 0, none⟩), .pointer (some ⟨u4 + 1, 0, none⟩)], .func (.func 87) #[] #[.pointer (some ⟨u5, 0, none⟩), .pointer (some ⟨u5 + 1, 0, none⟩)]] 95)))) (K0.out.stay (Ext.trans (Ext.trans (Ext.trans (Ext.trans (Ext.trans (Ext.trans (Ext.refl _) X1.out) X2.out) X3.out) X4.out) X5.out) (ext_al _ (.cells #[.func (.func 87) #[] #[.pointer (some ⟨u0, 0, none⟩), .pointer (some ⟨u0 + 1, 0, none⟩)], .func (.func 87) #[] #[.pointer (some ⟨u1, 0, none⟩), .pointer (some ⟨u1 + 1, 0, none⟩)], .func (.func 87) #[] #[.pointer (some ⟨u2, 0, none⟩), .pointer (some ⟨u2 + 1, 0, none⟩)], .func (.func 87) #[] #[.pointer (some ⟨u3, 0, none⟩), .pointer (some ⟨u3 + 1, 0, none⟩)], .func (.func 87) #[] #[.pointer (some ⟨u4, 0, none⟩), .pointer (some ⟨u4 + 1, 0, none⟩)], .func (.func 87) #[] #[.pointer (some ⟨u5, 0, none⟩), .pointer (some ⟨u5 + 1, 0, none⟩)]] 95)))) (K0'.out.stay (Ext.trans (Ext.trans (Ext.trans (Ext.trans (Ext.trans (Ext.trans (Ext.refl _) X1.out) X2.out) X3.out) X4.out) X5.out) (ext_al _ (.cells #[.func (.func 87) #[] #[.pointer (some ⟨u0, 0, none⟩), .pointer (some ⟨u0 + 1, 0, none⟩)], .func (.func 87) #[] #[.pointer (some ⟨u1, 0, none⟩), .pointer (some ⟨u1 + 1, 0, none⟩)], .func (.func 87) #[] #[.pointer (some ⟨u2, 0, none⟩), .pointer (some ⟨u2 + 1, 0, none⟩)], .func (.func 87) #[] #[.pointer (some ⟨u3, 0, none⟩), .pointer (some ⟨u3 + 1, 0, none⟩)], .func (.func 87) #[] #[.pointer (some ⟨u4, 0, none⟩), .pointer (some ⟨u4 + 1, 0, none⟩)], .func (.func 87) #[] #[.pointer (some ⟨u5, 0, none⟩), .pointer (some ⟨u5 + 1, 0, none⟩)]] 95)))) (K1.out.stay (Ext.trans (Ext.trans (Ext.trans (Ext.trans (Ext.trans (Ext.refl _) X2.out) X3.out) X4.out) X5.out) (ext_al _ (.cells #[.func (.func 87) #[] #[.pointer (some ⟨u0, 0, none⟩), .pointer (some ⟨u0 + 1, 0, none⟩)], .func (.func 87) #[] #[.pointer (some ⟨u1, 0, none⟩), .pointer (some ⟨u1 + 1, 0, none⟩)], .func (.func 87) #[] #[.pointer (some ⟨u2, 0, none⟩), .pointer (some ⟨u2 + 1, 0, none⟩)], .func (.func 87) #[] #[.pointer (some ⟨u3, 0, none⟩), .pointer (some ⟨u3 + 1, 0, none⟩)], .func (.func 87) #[] #[.pointer (some ⟨u4, 0, none⟩), .pointer (some ⟨u4 + 1, 0, none⟩)], .func (.func 87) #[] #[.pointer (some ⟨u5, 0, none⟩), .pointer (some ⟨u5 + 1, 0, none⟩)]] 95)))) (K1'.out.stay (Ext.trans (Ext.trans (Ext.trans (Ext.trans (Ext.trans (Ext.refl _) X2.out) X3.out) X4.out) X5.out) (ext_al _ (.cells #[.func (.func 87) #[] #[.pointer (some ⟨u0, 0, none⟩), .pointer (some ⟨u0 + 1, 0, none⟩)], .func (.func 87) #[] #[.pointer (some ⟨u1, 0, none⟩), .pointer (some ⟨u1 + 1, 0, none⟩)], .func (.func 87) #[] #[.pointer (some ⟨u2, 0, none⟩), .pointer (some ⟨u2 + 1, 0, none⟩)], .func (.func 87) #[] #[.pointer (some ⟨u3, 0, none⟩), .pointer (some ⟨u3 + 1, 0, none⟩)], .func (.func 87) #[] #[.pointer (some ⟨u4, 0, none⟩), .pointer (some ⟨u4 + 1, 0, none⟩)], .func (.func 87) #[] #[.pointer (some ⟨u5, 0, none⟩), .pointer (some ⟨u5 + 1, 0, none⟩)]] 95)))) (K2.out.stay (Ext.trans (Ext.trans (Ext.trans (Ext.trans (Ext.refl _) X3.out) X4.out) X5.out) (ext_al _ (.cells #[.func (.func 87) #[] #[.pointer (some ⟨u0, 0, none⟩), .pointer (some ⟨u0 + 1, 0, none⟩)], .func (.func 87) #[] #[.pointer (some ⟨u1, 0, none⟩), .pointer (some ⟨u1 + 1, 0, none⟩)], .func (.func 87) #[] #[.pointer (some ⟨u2, 0, none⟩), .pointer (some ⟨u2 + 1, 0, none⟩)], .func (.func 87) #[] #[.pointer (some ⟨u3, 0, none⟩), .pointer (some ⟨u3 + 1, 0, none⟩)], .func (.func 87) #[] #[.pointer (some ⟨u4, 0, none⟩), .pointer (some ⟨u4 + 1, 0, none⟩)], .func (.func 87) #[] #[.pointer (some ⟨u5, 0, none⟩), .pointer (some ⟨u5 + 1, 0, none⟩)]] 95)))) (K2'.out.stay (Ext.trans (Ext.trans (Ext.trans (Ext.trans (Ext.refl _) X3.out) X4.out) X5.out) (ext_al _ (.cells #[.func (.func 87) #[] #[.pointer (some ⟨u0, 0, none⟩), .pointer (some ⟨u0 + 1, 0, none⟩)], .func (.func 87) #[] #[.pointer (some ⟨u1, 0, none⟩), .pointer (some ⟨u1 + 1, 0, none⟩)], .func (.func 87) #[] #[.pointer (some ⟨u2, 0, none⟩), .pointer (some ⟨u2 + 1, 0, none⟩)], .func (.func 87) #[] #[.pointer (some ⟨u3, 0, none⟩), .pointer (some ⟨u3 + 1, 0, none⟩)], .func (.func 87) #[] #[.pointer (some ⟨u4, 0, none⟩), .pointer (some ⟨u4 + 1, 0, none⟩)], .func (.func 87) #[] #[.pointer (some ⟨u5, 0, none⟩), .pointer (some ⟨u5 + 1, 0, none⟩)]] 95)))) (K3.out.stay (Ext.trans (Ext.trans (Ext.trans (Ext.refl _) X4.out) X5.out) (ext_al _ (.cells #[.func (.func 87) #[] #[.pointer (some ⟨u0, 0, none⟩), .pointer (some ⟨u0 + 1, 0, none⟩)], .func (.func 87) #[] #[.pointer (some ⟨u1, 0, none⟩), .pointer (some ⟨u1 + 1, 0, none⟩)], .func (.func 87) #[] #[.pointer (some ⟨u2, 0, none⟩), .pointer (some ⟨u2 + 1, 0, none⟩)], .func (.func 87) #[] #[.pointer (some ⟨u3, 0, none⟩), .pointer (some ⟨u3 + 1, 0, none⟩)], .func (.func 87) #[] #[.pointer (some ⟨u4, 0, none⟩), .pointer (some ⟨u4 + 1, 0, none⟩)], .func (.func 87) #[] #[.pointer (some ⟨u5, 0, none⟩), .pointer (some ⟨u5 + 1, 0, none⟩)]] 95)))) (K3'.out.stay (Ext.trans (Ext.trans (Ext.trans (Ext.refl _) X4.out) X5.out) (ext_al _ (.cells #[.func (.func 87) #[] #[.pointer (some ⟨u0, 0, none⟩), .pointer (some ⟨u0 + 1, 0, none⟩)], .func (.func 87) #[] #[.pointer (some ⟨u1, 0, none⟩), .pointer (some ⟨u1 + 1, 0, none⟩)], .func (.func 87) #[] #[.pointer (some ⟨u2, 0, none⟩), .pointer (some ⟨u2 + 1, 0, none⟩)], .func (.func 87) #[] #[.pointer (some ⟨u3, 0, none⟩), .pointer (some ⟨u3 + 1, 0, none⟩)], .func (.func 87) #[] #[.pointer (some ⟨u4, 0, none⟩), .pointer (some ⟨u4 + 1, 0, none⟩)], .func (.func 87) #[] #[.pointer (some ⟨u5, 0, none⟩), .pointer (some ⟨u5 + 1, 0, none⟩)]] 95)))) (K4.out.stay (Ext.trans (Ext.trans (Ext.refl _) X5.out) (ext_al _ (.cells #[.func (.func 87) #[] #[.pointer (some ⟨u0, 0, none⟩), .pointer (some ⟨u0 + 1, 0, none⟩)], .func (.func 87) #[] #[.pointer (some ⟨u1, 0, none⟩), .pointer (some ⟨u1 + 1, 0, none⟩)], .func (.func 87) #[] #[.pointer (some ⟨u2, 0, none⟩), .pointer (some ⟨u2 + 1, 0, none⟩)], .func (.func 87) #[] #[.pointer (some ⟨u3, 0, none⟩), .pointer (some ⟨u3 + 1, 0, none⟩)], .func (.func 87) #[] #[.pointer (some ⟨u4, 0, none⟩), .pointer (some ⟨u4 + 1, 0, none⟩)], .func (.func 87) #[] #[.pointer (some ⟨u5, 0, none⟩), .pointer (some ⟨u5 + 1, 0, none⟩)]] 95)))) (K4'.out.stay (Ext.trans (Ext.trans (Ext.refl _) X5.out) (ext_al _ (.cells #[.func (.func 87) #[] #[.pointer (some ⟨u0, 0, none⟩), .pointer (some ⟨u0 + 1, 0, none⟩)], .func (.func 87) #[] #[.pointer (some ⟨u1, 0, none⟩), .pointer (some ⟨u1 + 1, 0, none⟩)], .func (.func 87) #[] #[.pointer (some ⟨u2, 0, none⟩), .pointer (some ⟨u2 + 1, 0, none⟩)], .func (.func 87) #[] #[.pointer (some ⟨u3, 0, none⟩), .pointer (some ⟨u3 + 1, 0, none⟩)], .func (.func 87) #[] #[.pointer (some ⟨u4, 0, none⟩), .pointer (some ⟨u4 + 1, 0, none⟩)], .func (.func 87) #[] #[.pointer (some ⟨u5, 0, none⟩), .pointer (some ⟨u5 + 1, 0, none⟩)]] 95)))) (K5.out.stay (Ext.trans (Ext.refl _) (ext_al _ (.cells #[.func (.func 87) #[] #[.pointer (some ⟨u0, 0, none⟩), .pointer (some ⟨u0 + 1, 0, none⟩)], .func (.func 87) #[] #[.pointer (some ⟨u1, 0, none⟩), .pointer (some ⟨u1 + 1, 0, none⟩)], .func (.func 87) #[] #[.pointer (some ⟨u2, 0, none⟩), .pointer (some ⟨u2 + 1, 0, none⟩)], .func (.func 87) #[] #[.pointer (some ⟨u3, 0, none⟩), .pointer (some ⟨u3 + 1, 0, none⟩)], .func (.func 87) #[] #[.pointer (some ⟨u4, 0, none⟩), .pointer (some ⟨u4 + 1, 0, none⟩)], .func (.func 87) #[] #[.pointer (some ⟨u5, 0, none⟩), .pointer (some ⟨u5 + 1, 0, none⟩)]] 95)))) (K5'.out.stay (Ext.trans (Ext.refl _) (ext_al _ (.cells #[.func (.func 87) #[] #[.pointer (some ⟨u0, 0, none⟩), .pointer (some ⟨u0 + 1, 0, none⟩)], .func (.func 87) #[] #[.pointer (some ⟨u1, 0, none⟩), .pointer (some ⟨u1 + 1, 0, none⟩)], .func (.func 87) #[] #[.pointer (some ⟨u2, 0, none⟩), .pointer (some ⟨u2 + 1, 0, none⟩)], .func (.func 87) #[] #[.pointer (some ⟨u3, 0, none⟩), .pointer (some ⟨u3 + 1, 0, none⟩)], .func (.func 87) #[] #[.pointer (some ⟨u4, 0, none⟩), .pointer (some ⟨u4 + 1, 0, none⟩)], .func (.func 87) #[] #[.pointer (some ⟨u5, 0, none⟩), .pointer (some ⟨u5 + 1, 0, none⟩)]] 95)))) (Blk.new _ _ _) _ HR.out; (with_reducible refine hq.mono ?_); clear hq; rintro e wf ⟨rfl, hx⟩; have XF : Hid (Ext w0 wf) := Ext.trans (Ext.trans (Ext.trans (Ext.trans (Ext.trans (Ext.trans (Ext.trans (Ext.trans (Ext.refl _) X0.out) X1.out) X2.out) X3.out) X4.out) X5.out) (ext_al _ (.cells #[.func (.func 87) #[] #[.pointer (some ⟨u0, 0, none⟩), .pointer (some ⟨u0 + 1, 0, none⟩)], .func (.func 87) #[] #[.pointer (some ⟨u1, 0, none⟩), .pointer (some ⟨u1 + 1, 0, none⟩)], .func (.func 87) #[] #[.pointer (some ⟨u2, 0, none⟩), .pointer (some ⟨u2 + 1, 0, none⟩)], .func (.func 87) #[] #[.pointer (some ⟨u3, 0, none⟩), .pointer (some ⟨u3 + 1, 0, none⟩)], .func (.func 87) #[] #[.pointer (some ⟨u4, 0, none⟩), .pointer (some ⟨u4 + 1, 0, none⟩)], .func (.func 87) #[] #[.pointer (some ⟨u5, 0, none⟩), .pointer (some ⟨u5 + 1, 0, none⟩)]] 95))) hx; clear hx; have XE := Lib.hid XF.out))
  obtain ⟨kA, kc, vA, vc, kB, hk, hv⟩ := H0.out.stay (Ext.trans HB.out XE.out)
  have HA5 := Lib.hid (H0.out.stay (Ext.trans HB.out XE.out))
  have KB := Lib.hid kB
  have HK := Lib.hid hk
  have HV := Lib.hid hv
  have zgA0 : ∀ V, Frm (oneA a) wf V → V.cell? ⟨w.heap.size, 0, none⟩ = some (.pointer (some ⟨a, 0, none⟩)) := fun V h => ((KgA.out.stay XE.out).frm h (show ¬ (w.heap.size) = a by have := HLT.out; omega)).cell 0
  have zgC0 : ∀ V, Frm (oneA a) wf V → V.cell? ⟨w.heap.size + 1, 0, none⟩ = some (.int .i64 ep) := fun V h => ((KgC.out.stay XE.out).frm h (show ¬ (w.heap.size + 1) = a by have := HLT.out; omega)).cell 0
  have zgC1 : ∀ V, Frm (oneA a) wf V → V.cell? ⟨w.heap.size + 1, 1, none⟩ = some (.slice A l.length cap) := fun V h => ((KgC.out.stay XE.out).frm h (show ¬ (w.heap.size + 1) = a by have := HLT.out; omega)).cell 1
  have zgB0 : ∀ V, Frm (oneA a) wf V → V.cell? ⟨w.heap.size + 1 + 1, 0, none⟩ = some (.int .i64 br) := fun V h => ((KgB.out.stay XE.out).frm h (show ¬ (w.heap.size + 1 + 1) = a by have := HLT.out; omega)).cell 0
  have zgB1 : ∀ V, Frm (oneA a) wf V → V.cell? ⟨w.heap.size + 1 + 1, 1, none⟩ = some (.int .i64 bn) := fun V h => ((KgB.out.stay XE.out).frm h (show ¬ (w.heap.size + 1 + 1) = a by have := HLT.out; omega)).cell 1
  have zgV0 : ∀ V, Frm (oneA a) wf V → V.cell? ⟨w.heap.size + 1 + 1 + 1, 0, none⟩ = some (.bool veto) := fun V h => ((KgV.out.stay XE.out).frm h (show ¬ (w.heap.size + 1 + 1 + 1) = a by have := HLT.out; omega)).cell 0
  have HCP : Hid (∀ V, Frm (oneA a) wf V → Calls Try.prog 61 #[.agg #[.int .i64 ep, .slice A l.length cap]] V fun e w' => ∃ A' c', e = .returned (.agg #[.int .i64 ep, .slice A' l.length c']) ∧ InS (fun g => w.heap.size ≤ g) w' A' c' l ∧ Ext V w') := fun V hV => by
    refine (acopied_any ep A cap l V (by have := HL.out; omega) ?_).mono ?_
    · have h5 := HS.out.stay (Ext.trans HB.out XE.out)
      exact sl_frm h5 HNA.out hV
    · rintro e w' ⟨v, he, ho, hx⟩
      obtain ⟨A', c', rfl, hin⟩ := InS.own ho
      exact ⟨A', c', he, hin.mono (fun g hg => Nat.le_trans (Nat.le_trans (Ext.trans HB.out XE.out).size hV.size) hg), hx⟩
  have E0 : Hid (Frm (oneA a) wf wf.drew) := (Frm.refl _ _).drew
  clear kB hk hv
  refine rz_begin (oneA a) [] (by kernel_rfl) ?_
  refine rz_take [6, 7, 8] (i := 0) (v := ?_) rfl (by kernel_rfl) (by kernel_rfl) (by kernel_rfl) (by kernel_rfl) (by kernel_rfl) (by kernel_rfl) (fun _ _ _ h => h) (by rfl) ?_ ?_
  rotate_left
  · intro W hW; have hW0 := Frm.tr E0.out hW; clear hW; go_simp <;> with_reducible rfl
  try simp only [Act.put, List.setIfInBounds_toArray, List.set_cons_zero, List.set_cons_succ]
  refine rz_take [5, 6, 7, 8] (i := 1) (v := ?_) rfl (by kernel_rfl) (by kernel_rfl) (by kernel_rfl) (by kernel_rfl) (by kernel_rfl) (by kernel_rfl) (fun _ _ _ h => h) (by rfl) ?_ ?_
  rotate_left
  · intro W hW; have hW0 := Frm.tr E0.out hW; clear hW; go_simp <;> with_reducible rfl
  try simp only [Act.put, List.setIfInBounds_toArray, List.set_cons_zero, List.set_cons_succ]
  refine rz_take [5, 6, 7, 8] (i := 2) (v := ?_) rfl (by kernel_rfl) (by kernel_rfl) (by kernel_rfl) (by kernel_rfl) (by kernel_rfl) (by kernel_rfl) (fun _ _ _ h => h) (by rfl) ?_ ?_
  rotate_left
  · intro W hW; have hW0 := Frm.tr E0.out hW; clear hW; go_simp <;> with_reducible rfl
  try simp only [Act.put, List.setIfInBounds_toArray, List.set_cons_zero, List.set_cons_succ]
  refine rz_take [4, 5, 6, 7, 8] (i := 3) (v := ?_) rfl (by kernel_rfl) (by kernel_rfl) (by kernel_rfl) (by kernel_rfl) (by kernel_rfl) (by kernel_rfl) (fun _ _ _ h => h) (by rfl) ?_ ?_
  rotate_left
  · intro W hW; have hW0 := Frm.tr E0.out hW; clear hW; go_simp <;> with_reducible rfl
  try simp only [Act.put, List.setIfInBounds_toArray, List.set_cons_zero, List.set_cons_succ]
  refine rz_call (i := 4) rfl (by kernel_rfl) (by rfl) (fun K hK => ?_)
  go_simp
  go_at_call 61
  with_reducible refine (HCP.out _ E0.out).mono ?_
  rintro e w1 ⟨A', c', rfl, hin, hx⟩
  refine hK _ _ (Frm.of_below hx _) ?_; clear hK K
  have E1 := Lib.hid (Frm.tr E0.out (Frm.of_below hx _))
  have HIN := Lib.hid hin
  have KB1 := Lib.hid (KB.out.drew.stay hx)
  have HA1 : Hid (AAtS S w1 a _) := ⟨kA, kc, vA, vc, KB1.out, HK.out.other HA5.out E1.out, HV.out.other HA5.out E1.out⟩
  clear hx hin
  try simp only [Act.put, List.setIfInBounds_toArray, List.set_cons_zero, List.set_cons_succ]
  refine rz_take [6, 7, 8] (i := 5) (v := ?_) rfl (by kernel_rfl) (by kernel_rfl) (by kernel_rfl) (by kernel_rfl) (by kernel_rfl) (by kernel_rfl) (fun _ _ _ h => h) (by rfl) ?_ ?_
  rotate_left
  · intro W hW; have hW0 := Frm.tr E1.out hW; clear hW; go_simp <;> with_reducible rfl
  try simp only [Act.put, List.setIfInBounds_toArray, List.set_cons_zero, List.set_cons_succ]
  refine rz_take [7, 8] (i := 6) (v := ?_) rfl (by kernel_rfl) (by kernel_rfl) (by kernel_rfl) (by kernel_rfl) (by kernel_rfl) (by kernel_rfl) (fun _ _ _ h => h) (by rfl) ?_ ?_
  rotate_left
  · intro W hW; have hW0 := Frm.tr E1.out hW; clear hW; go_simp <;> with_reducible rfl
  try simp only [Act.put, List.setIfInBounds_toArray, List.set_cons_zero, List.set_cons_succ]
  refine rz_take [8] (i := 7) (v := ?_) rfl (by kernel_rfl) (by kernel_rfl) (by kernel_rfl) (by kernel_rfl) (by kernel_rfl) (by kernel_rfl) (fun _ _ _ h => h) (by rfl) ?_ ?_
  rotate_left
  · intro W hW; have hW0 := Frm.tr E1.out hW; clear hW; go_simp <;> with_reducible rfl
  try simp only [Act.put, List.setIfInBounds_toArray, List.set_cons_zero, List.set_cons_succ]
  refine rz_call (i := 8) rfl (by kernel_rfl) (by rfl) (fun K hK => ?_)
  have q3 := KB1.out.frozen 3
  have r3 := KB1.out.cell 3
  have q4 := KB1.out.frozen 4
  have r4 := KB1.out.cell 4
  have q5 := KB1.out.frozen 5
  have r5 := KB1.out.cell 5
  have q6 := KB1.out.frozen 6
  have r6 := KB1.out.cell 6
  have q7 := KB1.out.frozen 7
  have r7 := KB1.out.cell 7
  have q8 := KB1.out.frozen 8
  have r8 := KB1.out.cell 8
  have q9 := KB1.out.frozen 9
  have r9 := KB1.out.cell 9
  simp [acells] at r3 r4 r5 r6 r7 r8 r9
  go_simp
  refine hK _ _ (Frm.tr (Frm.tr (Frm.tr (Frm.tr (Frm.tr (Frm.tr (Frm.tr (Frm.refl (oneA a) _) (Frm.of_set _ _ _ rfl)) (Frm.of_set _ _ _ rfl)) (Frm.of_set _ _ _ rfl)) (Frm.of_set _ _ _ rfl)) (Frm.of_set _ _ _ rfl)) (Frm.of_set _ _ _ rfl)) (Frm.of_set _ _ _ rfl)) ?_; clear hK K q3 r3 q4 r4 q5 r5 q6 r6 q7 r7 q8 r8 q9 r9
  obtain ⟨W2, hW⟩ : ∃ W2, W2 = (((((((w1.setCell ⟨a, 3, none⟩ (.int .i64 br)).setCell ⟨a, 4, none⟩ (.int .i64 bn)).setCell ⟨a, 5, none⟩ (.int .i64 br)).setCell ⟨a, 6, none⟩ (.int .i64 bn)).setCell ⟨a, 7, none⟩ (.bool true)).setCell ⟨a, 8, none⟩ (.int .i64 ep)).setCell ⟨a, 9, none⟩ (.slice A' l.length c')) := ⟨_, rfl⟩
  have KW2 : Hid (Blk W2 a 93 #[.int .i64 n, .int .i64 kep, .slice kA kns.length kc, .int .i64 br, .int .i64 bn, .int .i64 br, .int .i64 bn, .bool true, .int .i64 ep, .slice A' l.length c']) := by (show Blk _ _ _ _); rw [hW]; exact (((((((KB1.out.set 3 (.int .i64 br)).set 4 (.int .i64 bn)).set 5 (.int .i64 br)).set 6 (.int .i64 bn)).set 7 (.bool true)).set 8 (.int .i64 ep)).set 9 (.slice A' l.length c'))
  have FW2 : Hid (Frm (oneA a) w1 W2) := by (show Frm _ _ _); rw [hW]; exact Frm.tr (Frm.tr (Frm.tr (Frm.tr (Frm.tr (Frm.tr (Frm.tr (Frm.refl (oneA a) _) (Frm.of_set _ _ _ rfl)) (Frm.of_set _ _ _ rfl)) (Frm.of_set _ _ _ rfl)) (Frm.of_set _ _ _ rfl)) (Frm.of_set _ _ _ rfl)) (Frm.of_set _ _ _ rfl)) (Frm.of_set _ _ _ rfl)
  have EW2 : Hid (Frm (oneA a) wf W2) := Frm.tr E1.out FW2.out
  try rw [← hW]
  clear hW
  try simp only [Act.put, List.setIfInBounds_toArray, List.set_cons_zero, List.set_cons_succ]
  refine rz_done (by kernel_rfl) ?_ _
  go_wp2_with fail
  try go_ret
  exact hD.out _ _ ⟨rfl, ⟨kA, kc, A', c', KW2.out, (HK.out.other HA5.out EW2.out).mono (fun g h => Or.inl h), (HIN.out.other HA1.out FW2.out).mono (fun g h => Or.inr h)⟩, Frm.tr (Frm.of_below (Ext.trans HB.out XE.out) _) EW2.out⟩


set_option maxHeartbeats 2000000 in
theorem new_yesS (n : Nat) (w : World) (h1 : 1 ≤ n) (h5 : n ≤ 5) : Calls Try.prog 26 #[.int .i64 n] w fun e w' => ∃ a, e = .returned (.tuple #[pA a, .int .i64 0]) ∧ AAtS (fun g => w.heap.size ≤ g) w' a ⟨n, 1, upTo n, 0, 0, 0, 0, false, 0, []⟩ ∧ Ext w w' ∧ w.heap.size ≤ a := by
  refine hide_post fun D hD => ?_
  have HC := Lib.hid (chFirst_yes n w h1 h5)
  clear h1 h5
  go_enter Try.func26, Try.ntmps26
  go_wp2_with (go_at_call 51; (with_reducible refine HC.out.mono ?_); rintro e w1 ⟨v, rfl, ho, hx⟩; obtain ⟨A', c', rfl, hin⟩ := InS.own (l := upTo n) (by rw [upTo_len]; exact ho); (rw [upTo_len]); have HIN := Lib.hid hin; have X1 := Lib.hid hx; clear hx ho hin)
  try go_ret
  have hin2 : InS (fun g => w.heap.size ≤ g) ((w1.alloc (.cells #[.int .i64 1, .slice A' n c'] 26)).alloc (.cells #[.int .i64 n, .int .i64 1, .slice A' n c', .int .i64 0, .int .i64 0, .int .i64 0, .int .i64 0, .bool false, .int .i64 0, .slice none 0 0] 93)) A' c' (upTo n) := (HIN.out.stay (ext_al _ _)).stay (ext_al _ _)
  exact hD.out _ _ ⟨_, rfl, ⟨A', c', none, 0, by unfold acells; simp only [upTo_len]; exact Blk.new' _ _ _ _ (by simp), hin2, InS.nil _ _⟩, Ext.trans X1.out (Ext.trans (ext_al _ _) (ext_al _ _)), by have := X1.out.size; simp; omega⟩


theorem prep_anyS (S : Nat → Prop) (a : Nat) (v : AV) (ep br bn : Int) (w : World) (H : AAtS S w a v) (K : AOk v) :
    Calls Try.prog 27 #[pA a, .int .i64 ep, .agg #[.int .i64 br, .int .i64 bn]] w fun e w' => ∃ A c, e = .returned (.tuple #[.agg #[.int .i64 (prepR v ep br bn).pr, .int .i64 (prepR v ep br bn).pn, .int .i64 (prepR v ep br bn).ar, .int .i64 (prepR v ep br bn).an, .bool (prepR v ep br bn).has, .int .i64 (prepR v ep br bn).vep, .slice A (prepR v ep br bn).vns.length c], .int .i64 (prepE v ep br bn)]) ∧
      InS (fun g => w.heap.size ≤ g) w' A c (prepR v ep br bn).vns ∧ AAtS S w' a (prepV v ep br bn) ∧ Frm (oneA a) w w' := by
  by_cases h : prepE v ep br bn = 0
  · have hR : prepR v ep br bn = { v with pr := br, pn := bn } := by unfold prepR; rw [if_pos h]
    have hV : prepV v ep br bn = { v with pr := br, pn := bn } := by unfold prepV; rw [if_pos h]
    rw [hR, hV, h]
    obtain ⟨n, kep, kns, pr, pn, ar, an, has, vep, vns⟩ := v
    exact (prep_okS S a n kep kns pr pn ar an has vep vns ep br bn w H K.kb h K.vl).mono fun e w' ⟨A, c, h1, h2, h3, h4⟩ => ⟨A, c, h1, h2, h3, h4⟩
  · have hR : prepR v ep br bn = ⟨v.n, v.kep, v.kns, 0, 0, 0, 0, false, 0, []⟩ := by unfold prepR; rw [if_neg h]
    have hV : prepV v ep br bn = v := by unfold prepV; rw [if_neg h]
    rw [hR, hV]
    exact (prep_no a v ep br bn _ w H.weak K.kb rfl h).mono fun e w' ⟨h1, h2⟩ => ⟨none, 0, h1, InS.nil _ _, H.stay h2, Frm.of_below h2 _⟩

theorem acc_anyS (S : Nat → Prop) (a : Nat) (v : AV) (ep br bn : Int) (A : Option Addr) (cap : Nat) (l : List Int) (veto : Bool) (w : World) (H : AAtS S w a v) (K : AOk v) (hl : l.length ≤ 1000000) (hcap : l.length ≤ cap) (hs : Sl i64 w A l) (hna : l ≠ [] → ∀ ad, A = some ad → ¬ ad.block = a) :
    Calls Try.prog 32 #[pA a, .agg #[.int .i64 ep, .slice A l.length cap], .agg #[.int .i64 br, .int .i64 bn], .bool veto] w fun e w' => e = .returned (.int .i64 (accE v ep l br bn veto)) ∧ AAtS (fun g => S g ∨ w.heap.size ≤ g) w' a (accV v ep l br bn veto) ∧ Frm (oneA a) w w' := by
  by_cases h : accE v ep l br bn veto = 0
  · have hV : accV v ep l br bn veto = ⟨v.n, v.kep, v.kns, br, bn, br, bn, true, ep, l⟩ := by unfold accV; rw [if_pos h]
    have hl0 : l ≠ [] := by
      have := (may_bds (accE_zero h).2.1).2.2.1
      intro e
      rw [e] at this
      simp at this
    rw [hV, h]
    obtain ⟨n, kep, kns, pr, pn, ar, an, has, vep, vns⟩ := v
    exact acc_okS S a n kep kns pr pn ar an has vep vns ep br bn A cap l veto w H hl hcap hs K.kb K.kl h (hna hl0)
  · have hV : accV v ep l br bn veto = v := by unfold accV; rw [if_neg h]
    rw [hV]
    exact (acc_no a v ep br bn A cap l veto _ w H.weak hl hcap hs K.kb K.kl rfl h).mono fun e w' ⟨h1, h2⟩ => ⟨h1, (H.stay h2).mono (fun g h => Or.inl h), Frm.of_below h2 _⟩
end Go.Proofs.Ytkdcbidbciognaa
