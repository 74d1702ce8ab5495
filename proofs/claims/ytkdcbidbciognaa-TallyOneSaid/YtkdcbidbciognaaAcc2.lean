/-
  The acceptor (law 13): its state; its questions.
-/
import Derived.Test.YtkdcbidbciognaaAcc
import Derived.Test.YtkdcbidbciognaaBalCmp
import Derived.Test.YtkdcbidbciognaaChNext
import Derived.Test.YtkdcbidbciognaaFits
namespace Go.Proofs.Ytkdcbidbciognaa
set_option linter.unusedVariables false
set_option linter.unusedSimpArgs false
open Go.RowKit

structure AV where
  n : Int
  kep : Int
  kns : List Int
  pr : Int
  pn : Int
  ar : Int
  an : Int
  has : Bool
  vep : Int
  vns : List Int
/-- numbers in a block of their own -/
def In (w : World) (A : Option Addr) (cap : Nat) (ns : List Int) : Prop := ns.length ≤ cap ∧ ((A = none ∧ ns = []) ∨ ∃ g cur, A = some ⟨g, 0, none⟩ ∧ Blk w g 3 cur ∧ ∀ (j : Nat) (v : Int), ns[j]? = some v → cur[j]? = some (i64 v))
theorem In.of {w w' : World} {A : Option Addr} {cap : Nat} {ns : List Int} (h : In w A cap ns) (hk : ∀ g cs, Blk w g 3 cs → Blk w' g 3 cs) : In w' A cap ns := by
  obtain ⟨hc, h | ⟨g, cur, h1, h2, h3⟩⟩ := h
  · exact ⟨hc, .inl h⟩
  · exact ⟨hc, .inr ⟨g, cur, h1, hk _ _ h2, h3⟩⟩
theorem In.stay {w w' : World} {A : Option Addr} {cap : Nat} {ns : List Int} (h : In w A cap ns) (hx : Ext w w') : In w' A cap ns := h.of fun g cs hb => hb.stay hx
theorem In.frm {s : Nat → Prop} {w w' : World} {A : Option Addr} {cap : Nat} {ns : List Int} (h : In w A cap ns) (hf : Frm s w w') (hs : ∀ g cs, Blk w g 3 cs → ¬ s g) : In w' A cap ns := h.of fun g cs hb => hb.frm hf (hs g cs hb)
theorem In.sl {w : World} {A : Option Addr} {cap : Nat} {ns : List Int} (h : In w A cap ns) : Sl i64 w A ns := by
  obtain ⟨_, ⟨rfl, rfl⟩ | ⟨g, cur, rfl, h2, h3⟩⟩ := h
  · exact Sl.nil _ _ _
  · exact Sl.of_blk h2 h3
theorem In.own {w : World} {base : Nat} {v : Value} {l : List Int} (h : w.ownsRow base 3 1 v l.length (l.map i64)) : ∃ A cap, v = .slice A l.length cap ∧ In w A cap l := by
  rcases h.2 with ⟨rfl, hn⟩ | ⟨g, cap, cur, rfl, _, hg, hc1, hc2, hcs, htake⟩
  · have : l = [] := List.eq_nil_of_length_eq_zero hn
    subst this
    exact ⟨none, 0, rfl, Nat.le_refl _, .inl ⟨rfl, rfl⟩⟩
  · have hle : l.length ≤ cap := by omega
    refine ⟨_, cap, rfl, hle, .inr ⟨g, cur, rfl, hg, fun j x hj => ?_⟩⟩
    have hlt : j < l.length := (List.getElem?_eq_some_iff.1 hj).1
    have h2 : (l.map i64)[j]? = some (i64 x) := by rw [List.getElem?_map, hj]; rfl
    rw [← htake, List.getElem?_take, if_pos (by omega)] at h2
    simpa using h2
theorem In.nil (w : World) : In w none 0 [] := ⟨Nat.le_refl _, .inl ⟨rfl, rfl⟩⟩

def acells (v : AV) (kA : Option Addr) (kc : Nat) (vA : Option Addr) (vc : Nat) : Array Value := #[.int .i64 v.n, .int .i64 v.kep, .slice kA v.kns.length kc, .int .i64 v.pr, .int .i64 v.pn, .int .i64 v.ar, .int .i64 v.an, .bool v.has, .int .i64 v.vep, .slice vA v.vns.length vc]
def AAt (w : World) (a : Nat) (v : AV) : Prop := ∃ kA kc vA vc, Blk w a 93 (acells v kA kc vA vc) ∧ In w kA kc v.kns ∧ In w vA vc v.vns
theorem AAt.lt {w : World} {a : Nat} {v : AV} (h : AAt w a v) : a < w.heap.size := by obtain ⟨_, _, _, _, h, _⟩ := h; exact h.lt
theorem AAt.stay {w w' : World} {a : Nat} {v : AV} (h : AAt w a v) (hx : Ext w w') : AAt w' a v := by
  obtain ⟨kA, kc, vA, vc, h1, h2, h3⟩ := h
  exact ⟨kA, kc, vA, vc, h1.stay hx, h2.stay hx, h3.stay hx⟩
theorem AAt.frm {s : Nat → Prop} {w w' : World} {a : Nat} {v : AV} (h : AAt w a v) (hf : Frm s w w') (ha : ¬ s a) (hs : ∀ g cs, Blk w g 3 cs → ¬ s g) : AAt w' a v := by
  obtain ⟨kA, kc, vA, vc, h1, h2, h3⟩ := h
  exact ⟨kA, kc, vA, vc, h1.frm hf ha, h2.frm hf hs, h3.frm hf hs⟩
/-- what another acceptor's call leaves -/
theorem AAt.other {w w' : World} {a a' : Nat} {v v' : AV} (h : AAt w a v) (h' : AAt w a' v') (hf : Frm (fun k => k = a') w w') (hne : a ≠ a') : AAt w' a v :=
  h.frm hf hne (fun g cs hb e => by obtain ⟨_, _, _, _, h1, _⟩ := h'; subst e; exact Blk.apart hb h1 (by decide) rfl)
theorem In.other {w w' : World} {a' cap : Nat} {A : Option Addr} {ns : List Int} {v' : AV} (h : In w A cap ns) (h' : AAt w a' v') (hf : Frm (fun k => k = a') w w') : In w' A cap ns :=
  h.frm hf (fun g cs hb e => by obtain ⟨_, _, _, _, h1, _⟩ := h'; subst e; exact Blk.apart hb h1 (by decide) rfl)

/-! ### its questions -/
abbrev pA (a : Nat) : Value := .pointer (some ⟨a, 0, none⟩)
set_option maxHeartbeats 4000000 in
theorem q_nil2 (g0 g1 : Nat) (w : World) (h0 : Blk w g0 48 #[.pointer none]) : Calls Try.prog 54 #[.pointer (some ⟨g0, 0, none⟩), .pointer (some ⟨g1, 0, none⟩)] w fun e w' => e = .returned (.bool true) ∧ Ext w w' := by
  refine hide_post fun D hD => ?_
  have c0 := h0.cell 0
  simp at c0
  go_enter Try.func54, Try.ntmps54
  go_wp2_with fail
  try go_ret
  exact hD.out _ _ ⟨rfl, by first | exact Ext.refl _ | exact Ext.drewN (Ext.refl _)⟩

set_option maxHeartbeats 4000000 in
theorem q_nil3 (g0 g1 g2 : Nat) (w : World) (h0 : Blk w g0 48 #[.pointer none]) : Calls Try.prog 62 #[.pointer (some ⟨g0, 0, none⟩), .pointer (some ⟨g1, 0, none⟩), .pointer (some ⟨g2, 0, none⟩)] w fun e w' => e = .returned (.bool true) ∧ Ext w w' := by
  refine hide_post fun D hD => ?_
  have c0 := h0.cell 0
  simp at c0
  go_enter Try.func62, Try.ntmps62
  go_wp2_with fail
  try go_ret
  exact hD.out _ _ ⟨rfl, by first | exact Ext.refl _ | exact Ext.drewN (Ext.refl _)⟩

set_option maxHeartbeats 4000000 in
theorem q_nilL (g0 g1 : Nat) (w : World) (h0 : Blk w g0 48 #[.pointer none]) : Calls Try.prog 58 #[.pointer (some ⟨g0, 0, none⟩), .pointer (some ⟨g1, 0, none⟩)] w fun e w' => e = .returned (.bool true) ∧ Ext w w' := by
  refine hide_post fun D hD => ?_
  have c0 := h0.cell 0
  simp at c0
  go_enter Try.func58, Try.ntmps58
  go_wp2_with fail
  try go_quiet (fail)
  try go_wp2_with fail
  try go_ret
  exact hD.out _ _ ⟨rfl, by first | exact Ext.refl _ | exact Ext.drewN (Ext.refl _)⟩

set_option maxHeartbeats 4000000 in
theorem q_prep1 (g0 g1 a : Nat) (br bn : Int) (w : World) (h0 : Blk w g0 48 #[pA a]) (h1 : Blk w g1 23 #[.int .i64 br, .int .i64 bn]) :
    Calls Try.prog 54 #[.pointer (some ⟨g0, 0, none⟩), .pointer (some ⟨g1, 0, none⟩)] w fun e w' => e = .returned (.bool (!mayBal br bn)) ∧ Ext w w' := by
  refine hide_post fun D hD => ?_
  have HM : Hid (Calls Try.prog 44 #[.agg #[.int .i64 br, .int .i64 bn]] w fun e w' => e = .returned (.bool (mayBal br bn)) ∧ Ext w w') := mayBal_any br bn w
  have c0 : w.cell? ⟨g0, 0, none⟩ = some (pA a) := h0.cell 0
  have b0 : w.cell? ⟨g1, 0, none⟩ = some (.int .i64 br) := h1.cell 0
  have b1 : w.cell? ⟨g1, 1, none⟩ = some (.int .i64 bn) := h1.cell 1
  clear h0 h1
  unfold pA at c0
  generalize mayBal br bn = m at *
  cases m
  all_goals
    go_enter Try.func54, Try.ntmps54
    go_wp2_with (go_at_call 44; (with_reducible refine HM.out.mono ?_); rintro e w1 ⟨rfl, hx⟩; have X1 := Lib.hid hx; clear hx)
    try go_ret
    exact hD.out _ _ ⟨rfl, X1.out⟩

set_option maxHeartbeats 4000000 in
theorem q_prep2 (g0 g1 a : Nat) (ep : Int) (v : AV) (w : World) (h0 : Blk w g0 3 #[.int .i64 ep]) (h1 : Blk w g1 48 #[pA a]) (H : AAt w a v) :
    Calls Try.prog 55 #[.pointer (some ⟨g0, 0, none⟩), .pointer (some ⟨g1, 0, none⟩)] w fun e w' => e = .returned (.bool (decide (ep ≤ v.kep))) ∧ Ext w w' := by
  refine hide_post fun D hD => ?_
  obtain ⟨kA, kc, vA, vc, kB, hk, hv⟩ := H
  obtain ⟨n, kep, kns, pr, pn, ar, an, has, vep, vns⟩ := v
  have a1 : w.cell? ⟨a, 1, none⟩ = some (.int .i64 kep) := kB.cell 1
  have c0 : w.cell? ⟨g0, 0, none⟩ = some (.int .i64 ep) := h0.cell 0
  have b0 : w.cell? ⟨g1, 0, none⟩ = some (pA a) := h1.cell 0
  unfold pA at b0
  simp only at *
  clear h0 h1 kB hk hv
  by_cases ht : ep ≤ kep
  all_goals
    go_enter Try.func55, Try.ntmps55
    go_wp2_with fail
    try go_quiet (fail)
    try go_wp2_with fail
    try go_ret
    exact hD.out _ _ ⟨ret_bool (by first | (simp [ht]; done) | (simp [ht, hw]; done)), by first | exact Ext.refl _ | exact (Ext.refl _).drewN⟩

set_option maxHeartbeats 4000000 in
theorem q_prep3 (g0 g1 a : Nat) (ep : Int) (v : AV) (w : World) (h0 : Blk w g0 3 #[.int .i64 ep]) (h1 : Blk w g1 48 #[pA a]) (H : AAt w a v) (hk0 : 0 ≤ v.kep ∧ v.kep ≤ 1073741824) :
    Calls Try.prog 56 #[.pointer (some ⟨g0, 0, none⟩), .pointer (some ⟨g1, 0, none⟩)] w fun e w' => e = .returned (.bool (!decide (ep = v.kep + 1))) ∧ Ext w w' := by
  refine hide_post fun D hD => ?_
  obtain ⟨kA, kc, vA, vc, kB, hk, hv⟩ := H
  obtain ⟨n, kep, kns, pr, pn, ar, an, has, vep, vns⟩ := v
  have a1 : w.cell? ⟨a, 1, none⟩ = some (.int .i64 kep) := kB.cell 1
  have c0 : w.cell? ⟨g0, 0, none⟩ = some (.int .i64 ep) := h0.cell 0
  have b0 : w.cell? ⟨g1, 0, none⟩ = some (pA a) := h1.cell 0
  unfold pA at b0
  simp only at *
  clear h0 h1 kB hk hv
  obtain ⟨k1, hk1⟩ : ∃ k1, k1 = kep + 1 := ⟨_, rfl⟩
  have hw : wrap64 (kep + 1) = k1 := by rw [hk1]; unfold wrap64; omega
  have hw' : IntKind.i64.wrap (kep + 1) = k1 := by rw [hk1]; unfold IntKind.wrap; simp [IntKind.bits, IntKind.signed]; omega
  rw [← hk1] at hD
  have HK1 := Lib.hid hk1
  clear hk1 hk0
  by_cases ht : ep = k1
  all_goals
    go_enter Try.func56, Try.ntmps56
    go_wp2_with fail
    try go_quiet (fail)
    try go_wp2_with fail
    try go_ret
    exact hD.out _ _ ⟨ret_bool (by first | (simp [ht]; done) | (simp [ht, hw]; done)), by first | exact Ext.refl _ | exact (Ext.refl _).drewN⟩

set_option maxHeartbeats 4000000 in
theorem q_acc2 (g0 g1 a : Nat) (ep : Int) (A : Option Addr) (cap : Nat) (l : List Int) (v : AV) (w : World) (h0 : Blk w g0 26 #[.int .i64 ep, .slice A l.length cap]) (h1 : Blk w g1 48 #[pA a]) (H : AAt w a v) :
    Calls Try.prog 63 #[.pointer (some ⟨g0, 0, none⟩), .pointer (some ⟨g1, 0, none⟩)] w fun e w' => e = .returned (.bool (decide (ep ≤ v.kep))) ∧ Ext w w' := by
  refine hide_post fun D hD => ?_
  obtain ⟨kA, kc, vA, vc, kB, hk, hv⟩ := H
  obtain ⟨n, kep, kns, pr, pn, ar, an, has, vep, vns⟩ := v
  have a1 : w.cell? ⟨a, 1, none⟩ = some (.int .i64 kep) := kB.cell 1
  have c0 : w.cell? ⟨g0, 0, none⟩ = some (.int .i64 ep) := h0.cell 0
  have c1 : w.cell? ⟨g0, 1, none⟩ = some (.slice A l.length cap) := h0.cell 1
  have b0 : w.cell? ⟨g1, 0, none⟩ = some (pA a) := h1.cell 0
  unfold pA at b0
  simp only at *
  clear h0 h1 kB hk hv
  by_cases ht : ep ≤ kep
  all_goals
    go_enter Try.func63, Try.ntmps63
    go_wp2_with fail
    try go_quiet (fail)
    try go_wp2_with fail
    try go_ret
    exact hD.out _ _ ⟨ret_bool (by first | (simp [ht]; done) | (simp [ht, hw]; done)), by first | exact Ext.refl _ | exact (Ext.refl _).drewN⟩

set_option maxHeartbeats 4000000 in
theorem q_acc3 (g0 g1 a : Nat) (ep : Int) (A : Option Addr) (cap : Nat) (l : List Int) (v : AV) (w : World) (h0 : Blk w g0 26 #[.int .i64 ep, .slice A l.length cap]) (h1 : Blk w g1 48 #[pA a]) (H : AAt w a v) (hk0 : 0 ≤ v.kep ∧ v.kep ≤ 1073741824) :
    Calls Try.prog 64 #[.pointer (some ⟨g0, 0, none⟩), .pointer (some ⟨g1, 0, none⟩)] w fun e w' => e = .returned (.bool (!decide (ep = v.kep + 1))) ∧ Ext w w' := by
  refine hide_post fun D hD => ?_
  obtain ⟨kA, kc, vA, vc, kB, hk, hv⟩ := H
  obtain ⟨n, kep, kns, pr, pn, ar, an, has, vep, vns⟩ := v
  have a1 : w.cell? ⟨a, 1, none⟩ = some (.int .i64 kep) := kB.cell 1
  have c0 : w.cell? ⟨g0, 0, none⟩ = some (.int .i64 ep) := h0.cell 0
  have c1 : w.cell? ⟨g0, 1, none⟩ = some (.slice A l.length cap) := h0.cell 1
  have b0 : w.cell? ⟨g1, 0, none⟩ = some (pA a) := h1.cell 0
  unfold pA at b0
  simp only at *
  clear h0 h1 kB hk hv
  obtain ⟨k1, hk1⟩ : ∃ k1, k1 = kep + 1 := ⟨_, rfl⟩
  have hw : wrap64 (kep + 1) = k1 := by rw [hk1]; unfold wrap64; omega
  have hw' : IntKind.i64.wrap (kep + 1) = k1 := by rw [hk1]; unfold IntKind.wrap; simp [IntKind.bits, IntKind.signed]; omega
  rw [← hk1] at hD
  have HK1 := Lib.hid hk1
  clear hk1 hk0
  by_cases ht : ep = k1
  all_goals
    go_enter Try.func64, Try.ntmps64
    go_wp2_with fail
    try go_quiet (fail)
    try go_wp2_with fail
    try go_ret
    exact hD.out _ _ ⟨ret_bool (by first | (simp [ht]; done) | (simp [ht, hw]; done)), by first | exact Ext.refl _ | exact (Ext.refl _).drewN⟩

set_option maxHeartbeats 4000000 in
theorem q_learn2 (g0 g1 a : Nat) (ep : Int) (A : Option Addr) (cap : Nat) (l : List Int) (v : AV) (w : World) (h0 : Blk w g0 26 #[.int .i64 ep, .slice A l.length cap]) (h1 : Blk w g1 48 #[pA a]) (H : AAt w a v) :
    Calls Try.prog 60 #[.pointer (some ⟨g0, 0, none⟩), .pointer (some ⟨g1, 0, none⟩)] w fun e w' => e = .returned (.bool (decide (ep ≤ v.kep))) ∧ Ext w w' := by
  refine hide_post fun D hD => ?_
  obtain ⟨kA, kc, vA, vc, kB, hk, hv⟩ := H
  obtain ⟨n, kep, kns, pr, pn, ar, an, has, vep, vns⟩ := v
  have a1 : w.cell? ⟨a, 1, none⟩ = some (.int .i64 kep) := kB.cell 1
  have c0 : w.cell? ⟨g0, 0, none⟩ = some (.int .i64 ep) := h0.cell 0
  have c1 : w.cell? ⟨g0, 1, none⟩ = some (.slice A l.length cap) := h0.cell 1
  have b0 : w.cell? ⟨g1, 0, none⟩ = some (pA a) := h1.cell 0
  unfold pA at b0
  simp only at *
  clear h0 h1 kB hk hv
  by_cases ht : ep ≤ kep
  all_goals
    go_enter Try.func60, Try.ntmps60
    go_wp2_with fail
    try go_quiet (fail)
    try go_wp2_with fail
    try go_ret
    exact hD.out _ _ ⟨ret_bool (by first | (simp [ht]; done) | (simp [ht, hw]; done)), by first | exact Ext.refl _ | exact (Ext.refl _).drewN⟩

set_option maxHeartbeats 4000000 in
theorem q_prep4 (g0 g1 a : Nat) (br bn : Int) (v : AV) (w : World) (h0 : Blk w g0 23 #[.int .i64 br, .int .i64 bn]) (h1 : Blk w g1 48 #[pA a]) (H : AAt w a v) :
    Calls Try.prog 57 #[.pointer (some ⟨g0, 0, none⟩), .pointer (some ⟨g1, 0, none⟩)] w fun e w' => e = .returned (.bool (decide (cmpBal br bn v.pr v.pn < 0))) ∧ Ext w w' := by
  refine hide_post fun D hD => ?_
  obtain ⟨kA, kc, vA, vc, kB, hk, hv⟩ := H
  obtain ⟨n, kep, kns, pr, pn, ar, an, has, vep, vns⟩ := v
  have a3 : ∀ V, Ext w V → V.cell? ⟨a, 3, none⟩ = some (.int .i64 pr) := fun V hV => (kB.stay hV).cell 3
  have a4 : ∀ V, Ext w V → V.cell? ⟨a, 4, none⟩ = some (.int .i64 pn) := fun V hV => (kB.stay hV).cell 4
  have c0 : ∀ V, Ext w V → V.cell? ⟨g0, 0, none⟩ = some (.int .i64 br) := fun V hV => (h0.stay hV).cell 0
  have c1 : ∀ V, Ext w V → V.cell? ⟨g0, 1, none⟩ = some (.int .i64 bn) := fun V hV => (h0.stay hV).cell 1
  have b0 : ∀ V, Ext w V → V.cell? ⟨g1, 0, none⟩ = some (pA a) := fun V hV => (h1.stay hV).cell 0
  unfold pA at b0
  simp only at *
  have HM : Hid (∀ V, Ext w V → Calls Try.prog 48 #[.agg #[.int .i64 br, .int .i64 bn], .agg #[.int .i64 pr, .int .i64 pn]] V fun e w' => e = .returned (.int .i64 (cmpBal br bn pr pn)) ∧ Ext V w') := fun V _ => balCmp_any br bn pr pn V
  clear h0 h1 kB hk hv
  generalize cmpBal br bn pr pn = m at *
  have E0 : Hid (Ext w w) := Ext.refl _
  by_cases ht : m < 0
  all_goals
    go_enter Try.func57, Try.ntmps57
    go_wp2_with fail
    refine ext_begin (by kernel_rfl) ?_
    have E0d := Lib.hid (Ext.drewR E0.out)
    refine ext_take (i := 0) (v := ?_) rfl (by kernel_rfl) (by kernel_rfl) (by kernel_rfl) (fun _ _ _ h => h) (by rfl) ?_ ?_
    rotate_left
    · intro W hW; have hW0 := Ext.trans E0d.out hW; clear hW; go_simp <;> with_reducible rfl
    try simp only [Act.put, List.setIfInBounds_toArray, List.set_cons_zero, List.set_cons_succ]
    refine ext_take (i := 1) (v := ?_) rfl (by kernel_rfl) (by kernel_rfl) (by kernel_rfl) (fun _ _ _ h => h) (by rfl) ?_ ?_
    rotate_left
    · intro W hW; have hW0 := Ext.trans E0d.out hW; clear hW; go_simp <;> with_reducible rfl
    try simp only [Act.put, List.setIfInBounds_toArray, List.set_cons_zero, List.set_cons_succ]
    refine ext_take (i := 2) (v := ?_) rfl (by kernel_rfl) (by kernel_rfl) (by kernel_rfl) (fun _ _ _ h => h) (by rfl) ?_ ?_
    rotate_left
    · intro W hW; have hW0 := Ext.trans E0d.out hW; clear hW; go_simp <;> with_reducible rfl
    try simp only [Act.put, List.setIfInBounds_toArray, List.set_cons_zero, List.set_cons_succ]
    refine ext_take (i := 3) (v := ?_) rfl (by kernel_rfl) (by kernel_rfl) (by kernel_rfl) (fun _ _ _ h => h) (by rfl) ?_ ?_
    rotate_left
    · intro W hW; have hW0 := Ext.trans E0d.out hW; clear hW; go_simp <;> with_reducible rfl
    try simp only [Act.put, List.setIfInBounds_toArray, List.set_cons_zero, List.set_cons_succ]
    refine ext_take (i := 4) (v := ?_) rfl (by kernel_rfl) (by kernel_rfl) (by kernel_rfl) (fun _ _ _ h => h) (by rfl) ?_ ?_
    rotate_left
    · intro W hW; have hW0 := Ext.trans E0d.out hW; clear hW; go_simp <;> with_reducible rfl
    try simp only [Act.put, List.setIfInBounds_toArray, List.set_cons_zero, List.set_cons_succ]
    refine ext_take (i := 5) (v := ?_) rfl (by kernel_rfl) (by kernel_rfl) (by kernel_rfl) (fun _ _ _ h => h) (by rfl) ?_ ?_
    rotate_left
    · intro W hW; have hW0 := Ext.trans E0d.out hW; clear hW; go_simp <;> with_reducible rfl
    try simp only [Act.put, List.setIfInBounds_toArray, List.set_cons_zero, List.set_cons_succ]
    refine ext_call (i := 6) rfl (by kernel_rfl) (by rfl) (fun K' hK => ?_)
    go_simp
    (go_at_call 48; (with_reducible refine (HM.out _ E0d.out).mono ?_); rintro e w1 ⟨rfl, hx⟩; refine hK _ _ hx ?_; clear hK)
    have Ew1 := Lib.hid (Ext.trans E0d.out hx)
    clear hx
    try simp only [Act.put, List.setIfInBounds_toArray, List.set_cons_zero, List.set_cons_succ]
    refine ext_take (i := 7) (v := ?_) rfl (by kernel_rfl) (by kernel_rfl) (by kernel_rfl) (fun _ _ _ h => h) (by rfl) ?_ ?_
    rotate_left
    · intro W hW; have hW0 := Ext.trans Ew1.out hW; clear hW; go_simp <;> with_reducible rfl
    try simp only [Act.put, List.setIfInBounds_toArray, List.set_cons_zero, List.set_cons_succ]
    refine ext_take (i := 8) (v := ?_) rfl (by kernel_rfl) (by kernel_rfl) (by kernel_rfl) (fun _ _ _ h => h) (by rfl) ?_ ?_
    rotate_left
    · intro W hW; have hW0 := Ext.trans Ew1.out hW; clear hW; go_simp <;> with_reducible rfl
    try simp only [Act.put, List.setIfInBounds_toArray, List.set_cons_zero, List.set_cons_succ]
    refine wpAnyH_done (by kernel_rfl) ?_ _
    have EX := Lib.hid Ew1.out
    clear Ew1 E0 E0d
    try go_wp2_with fail
    try go_ret
    exact hD.out _ _ ⟨ret_bool (by simp [ht]), EX.out⟩

set_option maxHeartbeats 4000000 in
theorem q_acc5 (g0 g1 a : Nat) (br bn : Int) (v : AV) (w : World) (h0 : Blk w g0 23 #[.int .i64 br, .int .i64 bn]) (h1 : Blk w g1 48 #[pA a]) (H : AAt w a v) :
    Calls Try.prog 67 #[.pointer (some ⟨g0, 0, none⟩), .pointer (some ⟨g1, 0, none⟩)] w fun e w' => e = .returned (.bool (decide (cmpBal br bn v.pr v.pn < 0))) ∧ Ext w w' := by
  refine hide_post fun D hD => ?_
  obtain ⟨kA, kc, vA, vc, kB, hk, hv⟩ := H
  obtain ⟨n, kep, kns, pr, pn, ar, an, has, vep, vns⟩ := v
  have a3 : ∀ V, Ext w V → V.cell? ⟨a, 3, none⟩ = some (.int .i64 pr) := fun V hV => (kB.stay hV).cell 3
  have a4 : ∀ V, Ext w V → V.cell? ⟨a, 4, none⟩ = some (.int .i64 pn) := fun V hV => (kB.stay hV).cell 4
  have c0 : ∀ V, Ext w V → V.cell? ⟨g0, 0, none⟩ = some (.int .i64 br) := fun V hV => (h0.stay hV).cell 0
  have c1 : ∀ V, Ext w V → V.cell? ⟨g0, 1, none⟩ = some (.int .i64 bn) := fun V hV => (h0.stay hV).cell 1
  have b0 : ∀ V, Ext w V → V.cell? ⟨g1, 0, none⟩ = some (pA a) := fun V hV => (h1.stay hV).cell 0
  unfold pA at b0
  simp only at *
  have HM : Hid (∀ V, Ext w V → Calls Try.prog 48 #[.agg #[.int .i64 br, .int .i64 bn], .agg #[.int .i64 pr, .int .i64 pn]] V fun e w' => e = .returned (.int .i64 (cmpBal br bn pr pn)) ∧ Ext V w') := fun V _ => balCmp_any br bn pr pn V
  clear h0 h1 kB hk hv
  generalize cmpBal br bn pr pn = m at *
  have E0 : Hid (Ext w w) := Ext.refl _
  by_cases ht : m < 0
  all_goals
    go_enter Try.func67, Try.ntmps67
    go_wp2_with fail
    refine ext_begin (by kernel_rfl) ?_
    have E0d := Lib.hid (Ext.drewR E0.out)
    refine ext_take (i := 0) (v := ?_) rfl (by kernel_rfl) (by kernel_rfl) (by kernel_rfl) (fun _ _ _ h => h) (by rfl) ?_ ?_
    rotate_left
    · intro W hW; have hW0 := Ext.trans E0d.out hW; clear hW; go_simp <;> with_reducible rfl
    try simp only [Act.put, List.setIfInBounds_toArray, List.set_cons_zero, List.set_cons_succ]
    refine ext_take (i := 1) (v := ?_) rfl (by kernel_rfl) (by kernel_rfl) (by kernel_rfl) (fun _ _ _ h => h) (by rfl) ?_ ?_
    rotate_left
    · intro W hW; have hW0 := Ext.trans E0d.out hW; clear hW; go_simp <;> with_reducible rfl
    try simp only [Act.put, List.setIfInBounds_toArray, List.set_cons_zero, List.set_cons_succ]
    refine ext_take (i := 2) (v := ?_) rfl (by kernel_rfl) (by kernel_rfl) (by kernel_rfl) (fun _ _ _ h => h) (by rfl) ?_ ?_
    rotate_left
    · intro W hW; have hW0 := Ext.trans E0d.out hW; clear hW; go_simp <;> with_reducible rfl
    try simp only [Act.put, List.setIfInBounds_toArray, List.set_cons_zero, List.set_cons_succ]
    refine ext_take (i := 3) (v := ?_) rfl (by kernel_rfl) (by kernel_rfl) (by kernel_rfl) (fun _ _ _ h => h) (by rfl) ?_ ?_
    rotate_left
    · intro W hW; have hW0 := Ext.trans E0d.out hW; clear hW; go_simp <;> with_reducible rfl
    try simp only [Act.put, List.setIfInBounds_toArray, List.set_cons_zero, List.set_cons_succ]
    refine ext_take (i := 4) (v := ?_) rfl (by kernel_rfl) (by kernel_rfl) (by kernel_rfl) (fun _ _ _ h => h) (by rfl) ?_ ?_
    rotate_left
    · intro W hW; have hW0 := Ext.trans E0d.out hW; clear hW; go_simp <;> with_reducible rfl
    try simp only [Act.put, List.setIfInBounds_toArray, List.set_cons_zero, List.set_cons_succ]
    refine ext_take (i := 5) (v := ?_) rfl (by kernel_rfl) (by kernel_rfl) (by kernel_rfl) (fun _ _ _ h => h) (by rfl) ?_ ?_
    rotate_left
    · intro W hW; have hW0 := Ext.trans E0d.out hW; clear hW; go_simp <;> with_reducible rfl
    try simp only [Act.put, List.setIfInBounds_toArray, List.set_cons_zero, List.set_cons_succ]
    refine ext_call (i := 6) rfl (by kernel_rfl) (by rfl) (fun K' hK => ?_)
    go_simp
    (go_at_call 48; (with_reducible refine (HM.out _ E0d.out).mono ?_); rintro e w1 ⟨rfl, hx⟩; refine hK _ _ hx ?_; clear hK)
    have Ew1 := Lib.hid (Ext.trans E0d.out hx)
    clear hx
    try simp only [Act.put, List.setIfInBounds_toArray, List.set_cons_zero, List.set_cons_succ]
    refine ext_take (i := 7) (v := ?_) rfl (by kernel_rfl) (by kernel_rfl) (by kernel_rfl) (fun _ _ _ h => h) (by rfl) ?_ ?_
    rotate_left
    · intro W hW; have hW0 := Ext.trans Ew1.out hW; clear hW; go_simp <;> with_reducible rfl
    try simp only [Act.put, List.setIfInBounds_toArray, List.set_cons_zero, List.set_cons_succ]
    refine ext_take (i := 8) (v := ?_) rfl (by kernel_rfl) (by kernel_rfl) (by kernel_rfl) (fun _ _ _ h => h) (by rfl) ?_ ?_
    rotate_left
    · intro W hW; have hW0 := Ext.trans Ew1.out hW; clear hW; go_simp <;> with_reducible rfl
    try simp only [Act.put, List.setIfInBounds_toArray, List.set_cons_zero, List.set_cons_succ]
    refine wpAnyH_done (by kernel_rfl) ?_ _
    have EX := Lib.hid Ew1.out
    clear Ew1 E0 E0d
    try go_wp2_with fail
    try go_ret
    exact hD.out _ _ ⟨ret_bool (by simp [ht]), EX.out⟩

set_option maxHeartbeats 4000000 in
theorem q_acc1 (g0 g1 g2 a : Nat) (br bn ep : Int) (A : Option Addr) (cap : Nat) (l : List Int) (w : World) (hl : l.length ≤ 1000000) (hcap : l.length ≤ cap) (hs : Sl i64 w A l) (h0 : Blk w g0 48 #[pA a]) (h1 : Blk w g1 23 #[.int .i64 br, .int .i64 bn]) (h2 : Blk w g2 26 #[.int .i64 ep, .slice A l.length cap]) :
    Calls Try.prog 62 #[.pointer (some ⟨g0, 0, none⟩), .pointer (some ⟨g1, 0, none⟩), .pointer (some ⟨g2, 0, none⟩)] w fun e w' => e = .returned (.bool (!mayBal br bn || !mayChainB ep l)) ∧ Ext w w' := by
  refine hide_post fun D hD => ?_
  have HM : Hid (Calls Try.prog 44 #[.agg #[.int .i64 br, .int .i64 bn]] w fun e w' => e = .returned (.bool (mayBal br bn)) ∧ Ext w w') := mayBal_any br bn w
  have HC : Hid (∀ V, Ext w V → Calls Try.prog 45 #[.agg #[.int .i64 ep, .slice A l.length cap]] V fun e w' => e = .returned (.bool (mayChainB ep l)) ∧ Ext V w') := fun V hV => mayChain_any ep A cap l V (by omega) hcap (hs.stay hV)
  have H2 := Lib.hid h2
  have c0 : w.cell? ⟨g0, 0, none⟩ = some (pA a) := h0.cell 0
  have b0 : w.cell? ⟨g1, 0, none⟩ = some (.int .i64 br) := h1.cell 0
  have b1 : w.cell? ⟨g1, 1, none⟩ = some (.int .i64 bn) := h1.cell 1
  unfold pA at c0
  clear h0 h1 h2 hs hcap
  generalize mayBal br bn = m at *
  generalize mayChainB ep l = mc at *
  generalize l.length = N at *
  cases m
  case false =>
    go_enter Try.func62, Try.ntmps62
    go_wp2_with (go_at_call 44; (with_reducible refine HM.out.mono ?_); rintro e w1 ⟨rfl, hx⟩; have X1 := Lib.hid hx; clear hx)
    try go_ret
    exact hD.out _ _ ⟨rfl, X1.out⟩
  case true =>
    cases mc
    all_goals
      go_enter Try.func62, Try.ntmps62
      go_wp2_with (first
        | (go_at_call 44; (with_reducible refine HM.out.mono ?_); rintro e w1 ⟨rfl, hx⟩; have d0 := (H2.out.stay hx).cell 0; have d1 := (H2.out.stay hx).cell 1; simp at d0 d1; have X1 := Lib.hid hx; clear hx)
        | (go_at_call 45; (with_reducible refine (HC.out _ X1.out).mono ?_); rintro e w2 ⟨rfl, hx⟩; have X2 : Hid (Ext w w2) := Ext.trans X1.out hx; clear hx))
      try go_ret
      exact hD.out _ _ ⟨rfl, X2.out⟩

set_option maxHeartbeats 4000000 in
theorem q_acc4 (g0 g1 a : Nat) (ep : Int) (A : Option Addr) (cap : Nat) (l : List Int) (v : AV) (w : World) (hl : l.length ≤ 1000000) (hcap : l.length ≤ cap) (hs : Sl i64 w A l) (h0 : Blk w g0 48 #[pA a]) (h1 : Blk w g1 26 #[.int .i64 ep, .slice A l.length cap]) (H : AAt w a v) (hkl : v.kns.length ≤ 1000000) :
    Calls Try.prog 65 #[.pointer (some ⟨g0, 0, none⟩), .pointer (some ⟨g1, 0, none⟩)] w fun e w' => e = .returned (.bool (!nextB v.kep ep v.kns l v.n)) ∧ Ext w w' := by
  refine hide_post fun D hD => ?_
  obtain ⟨kA, kc, vA, vc, kB, hk, hv⟩ := H
  obtain ⟨n, kep, kns, pr, pn, ar, an, has, vep, vns⟩ := v
  have a0 : ∀ V, Ext w V → V.cell? ⟨a, 0, none⟩ = some (.int .i64 n) := fun V hV => (kB.stay hV).cell 0
  have a1 : ∀ V, Ext w V → V.cell? ⟨a, 1, none⟩ = some (.int .i64 kep) := fun V hV => (kB.stay hV).cell 1
  have a2 : ∀ V, Ext w V → V.cell? ⟨a, 2, none⟩ = some (.slice kA kns.length kc) := fun V hV => (kB.stay hV).cell 2
  have c0 : ∀ V, Ext w V → V.cell? ⟨g1, 0, none⟩ = some (.int .i64 ep) := fun V hV => (h1.stay hV).cell 0
  have c1 : ∀ V, Ext w V → V.cell? ⟨g1, 1, none⟩ = some (.slice A l.length cap) := fun V hV => (h1.stay hV).cell 1
  have b0 : ∀ V, Ext w V → V.cell? ⟨g0, 0, none⟩ = some (pA a) := fun V hV => (h0.stay hV).cell 0
  unfold pA at b0
  simp only at *
  have HM : Hid (∀ V, Ext w V → Calls Try.prog 66 #[.agg #[.int .i64 kep, .slice kA kns.length kc], .agg #[.int .i64 ep, .slice A l.length cap], .int .i64 n] V fun e w' => e = .returned (.bool (nextB kep ep kns l n)) ∧ Ext V w') := fun V hV => chNext_any kep ep n kA A kc cap kns l V (by omega) (by omega) hk.1 hcap (hk.sl.stay hV) (hs.stay hV)
  clear h0 h1 kB hk hv hs hcap
  generalize nextB kep ep kns l n = m at *
  generalize l.length = N at *
  generalize kns.length = KN at *
  have E0 : Hid (Ext w w) := Ext.refl _
  cases m
  all_goals
    go_enter Try.func65, Try.ntmps65
    go_wp2_with fail
    refine ext_begin (by kernel_rfl) ?_
    have E0d := Lib.hid (Ext.drewR E0.out)
    refine ext_take (i := 0) (v := ?_) rfl (by kernel_rfl) (by kernel_rfl) (by kernel_rfl) (fun _ _ _ h => h) (by rfl) ?_ ?_
    rotate_left
    · intro W hW; have hW0 := Ext.trans E0d.out hW; clear hW; go_simp <;> with_reducible rfl
    try simp only [Act.put, List.setIfInBounds_toArray, List.set_cons_zero, List.set_cons_succ]
    refine ext_take (i := 1) (v := ?_) rfl (by kernel_rfl) (by kernel_rfl) (by kernel_rfl) (fun _ _ _ h => h) (by rfl) ?_ ?_
    rotate_left
    · intro W hW; have hW0 := Ext.trans E0d.out hW; clear hW; go_simp <;> with_reducible rfl
    try simp only [Act.put, List.setIfInBounds_toArray, List.set_cons_zero, List.set_cons_succ]
    refine ext_take (i := 2) (v := ?_) rfl (by kernel_rfl) (by kernel_rfl) (by kernel_rfl) (fun _ _ _ h => h) (by rfl) ?_ ?_
    rotate_left
    · intro W hW; have hW0 := Ext.trans E0d.out hW; clear hW; go_simp <;> with_reducible rfl
    try simp only [Act.put, List.setIfInBounds_toArray, List.set_cons_zero, List.set_cons_succ]
    refine ext_take (i := 3) (v := ?_) rfl (by kernel_rfl) (by kernel_rfl) (by kernel_rfl) (fun _ _ _ h => h) (by rfl) ?_ ?_
    rotate_left
    · intro W hW; have hW0 := Ext.trans E0d.out hW; clear hW; go_simp <;> with_reducible rfl
    try simp only [Act.put, List.setIfInBounds_toArray, List.set_cons_zero, List.set_cons_succ]
    refine ext_take (i := 4) (v := ?_) rfl (by kernel_rfl) (by kernel_rfl) (by kernel_rfl) (fun _ _ _ h => h) (by rfl) ?_ ?_
    rotate_left
    · intro W hW; have hW0 := Ext.trans E0d.out hW; clear hW; go_simp <;> with_reducible rfl
    try simp only [Act.put, List.setIfInBounds_toArray, List.set_cons_zero, List.set_cons_succ]
    refine ext_take (i := 5) (v := ?_) rfl (by kernel_rfl) (by kernel_rfl) (by kernel_rfl) (fun _ _ _ h => h) (by rfl) ?_ ?_
    rotate_left
    · intro W hW; have hW0 := Ext.trans E0d.out hW; clear hW; go_simp <;> with_reducible rfl
    try simp only [Act.put, List.setIfInBounds_toArray, List.set_cons_zero, List.set_cons_succ]
    refine ext_take (i := 6) (v := ?_) rfl (by kernel_rfl) (by kernel_rfl) (by kernel_rfl) (fun _ _ _ h => h) (by rfl) ?_ ?_
    rotate_left
    · intro W hW; have hW0 := Ext.trans E0d.out hW; clear hW; go_simp <;> with_reducible rfl
    try simp only [Act.put, List.setIfInBounds_toArray, List.set_cons_zero, List.set_cons_succ]
    refine ext_take (i := 7) (v := ?_) rfl (by kernel_rfl) (by kernel_rfl) (by kernel_rfl) (fun _ _ _ h => h) (by rfl) ?_ ?_
    rotate_left
    · intro W hW; have hW0 := Ext.trans E0d.out hW; clear hW; go_simp <;> with_reducible rfl
    try simp only [Act.put, List.setIfInBounds_toArray, List.set_cons_zero, List.set_cons_succ]
    refine ext_take (i := 8) (v := ?_) rfl (by kernel_rfl) (by kernel_rfl) (by kernel_rfl) (fun _ _ _ h => h) (by rfl) ?_ ?_
    rotate_left
    · intro W hW; have hW0 := Ext.trans E0d.out hW; clear hW; go_simp <;> with_reducible rfl
    try simp only [Act.put, List.setIfInBounds_toArray, List.set_cons_zero, List.set_cons_succ]
    refine ext_call (i := 9) rfl (by kernel_rfl) (by rfl) (fun K' hK => ?_)
    go_simp
    (go_at_call 66; (with_reducible refine (HM.out _ E0d.out).mono ?_); rintro e w1 ⟨rfl, hx⟩; refine hK _ _ hx ?_; clear hK)
    have Ew1 := Lib.hid (Ext.trans E0d.out hx)
    clear hx
    try simp only [Act.put, List.setIfInBounds_toArray, List.set_cons_zero, List.set_cons_succ]
    refine ext_take (i := 10) (v := ?_) rfl (by kernel_rfl) (by kernel_rfl) (by kernel_rfl) (fun _ _ _ h => h) (by rfl) ?_ ?_
    rotate_left
    · intro W hW; have hW0 := Ext.trans Ew1.out hW; clear hW; go_simp <;> with_reducible rfl
    try simp only [Act.put, List.setIfInBounds_toArray, List.set_cons_zero, List.set_cons_succ]
    refine ext_take (i := 11) (v := ?_) rfl (by kernel_rfl) (by kernel_rfl) (by kernel_rfl) (fun _ _ _ h => h) (by rfl) ?_ ?_
    rotate_left
    · intro W hW; have hW0 := Ext.trans Ew1.out hW; clear hW; go_simp <;> with_reducible rfl
    try simp only [Act.put, List.setIfInBounds_toArray, List.set_cons_zero, List.set_cons_succ]
    refine wpAnyH_done (by kernel_rfl) ?_ _
    have EX := Lib.hid Ew1.out
    clear Ew1 E0 E0d
    try go_wp2_with fail
    try go_ret
    exact hD.out _ _ ⟨rfl, EX.out⟩

theorem q_acc6 (g0 : Nat) (b : Bool) (w : World) (h0 : Blk w g0 4 #[.bool b]) :
    Calls Try.prog 68 #[.pointer (some ⟨g0, 0, none⟩)] w fun e w' => e = .returned (.bool b) ∧ Ext w w' := by
  refine hide_post fun D hD => ?_
  have c0 := h0.cell 0
  simp at c0
  go_enter Try.func68, Try.ntmps68
  go_wp2_with fail
  try go_ret
  exact hD.out _ _ ⟨rfl, by first | exact Ext.refl _ | exact Ext.drewN (Ext.refl _)⟩

set_option maxHeartbeats 4000000 in
theorem q_learn1 (g0 g1 a : Nat) (ep : Int) (A : Option Addr) (cap : Nat) (l : List Int) (v : AV) (w : World) (hl : l.length ≤ 1000000) (hcap : l.length ≤ cap) (hs : Sl i64 w A l) (h0 : Blk w g0 48 #[pA a]) (h1 : Blk w g1 26 #[.int .i64 ep, .slice A l.length cap]) (H : AAt w a v) :
    Calls Try.prog 58 #[.pointer (some ⟨g0, 0, none⟩), .pointer (some ⟨g1, 0, none⟩)] w fun e w' => e = .returned (.bool (!mayChainB ep l || l.any (badB v.n))) ∧ Ext w w' := by
  refine hide_post fun D hD => ?_
  obtain ⟨kA, kc, vA, vc, kB, hk, hv⟩ := H
  obtain ⟨n, kep, kns, pr, pn, ar, an, has, vep, vns⟩ := v
  have a0 : ∀ V, Ext w V → V.cell? ⟨a, 0, none⟩ = some (.int .i64 n) := fun V hV => (kB.stay hV).cell 0
  have c0 : ∀ V, Ext w V → V.cell? ⟨g1, 0, none⟩ = some (.int .i64 ep) := fun V hV => (h1.stay hV).cell 0
  have c1 : ∀ V, Ext w V → V.cell? ⟨g1, 1, none⟩ = some (.slice A l.length cap) := fun V hV => (h1.stay hV).cell 1
  have b0 : ∀ V, Ext w V → V.cell? ⟨g0, 0, none⟩ = some (pA a) := fun V hV => (h0.stay hV).cell 0
  unfold pA at b0
  simp only at *
  have HM : Hid (∀ V, Ext w V → Calls Try.prog 45 #[.agg #[.int .i64 ep, .slice A l.length cap]] V fun e w' => e = .returned (.bool (mayChainB ep l)) ∧ Ext V w') := fun V hV => mayChain_any ep A cap l V (by omega) hcap (hs.stay hV)
  have HF : Hid (∀ V, Ext w V → Calls Try.prog 59 #[.agg #[.int .i64 ep, .slice A l.length cap], .int .i64 n] V fun e w' => e = .returned (.bool (!l.any (badB n))) ∧ Ext V w') := fun V hV => fits_any ep n A cap l V (by omega) (hs.stay hV)
  clear h0 h1 kB hk hv hs hcap
  generalize mayChainB ep l = m at *
  generalize l.any (badB n) = f at *
  generalize l.length = N at *
  have E0 : Hid (Ext w w) := Ext.refl _
  cases m
  case false =>
    go_enter Try.func58, Try.ntmps58
    go_wp2_with fail
    refine ext_begin (by kernel_rfl) ?_
    have E0d := Lib.hid (Ext.drewR E0.out)
    refine ext_take (i := 0) (v := ?_) rfl (by kernel_rfl) (by kernel_rfl) (by kernel_rfl) (fun _ _ _ h => h) (by rfl) ?_ ?_
    rotate_left
    · intro W hW; have hW0 := Ext.trans E0d.out hW; clear hW; go_simp <;> with_reducible rfl
    try simp only [Act.put, List.setIfInBounds_toArray, List.set_cons_zero, List.set_cons_succ]
    refine ext_take (i := 1) (v := ?_) rfl (by kernel_rfl) (by kernel_rfl) (by kernel_rfl) (fun _ _ _ h => h) (by rfl) ?_ ?_
    rotate_left
    · intro W hW; have hW0 := Ext.trans E0d.out hW; clear hW; go_simp <;> with_reducible rfl
    try simp only [Act.put, List.setIfInBounds_toArray, List.set_cons_zero, List.set_cons_succ]
    refine ext_take (i := 2) (v := ?_) rfl (by kernel_rfl) (by kernel_rfl) (by kernel_rfl) (fun _ _ _ h => h) (by rfl) ?_ ?_
    rotate_left
    · intro W hW; have hW0 := Ext.trans E0d.out hW; clear hW; go_simp <;> with_reducible rfl
    try simp only [Act.put, List.setIfInBounds_toArray, List.set_cons_zero, List.set_cons_succ]
    refine ext_take (i := 3) (v := ?_) rfl (by kernel_rfl) (by kernel_rfl) (by kernel_rfl) (fun _ _ _ h => h) (by rfl) ?_ ?_
    rotate_left
    · intro W hW; have hW0 := Ext.trans E0d.out hW; clear hW; go_simp <;> with_reducible rfl
    try simp only [Act.put, List.setIfInBounds_toArray, List.set_cons_zero, List.set_cons_succ]
    refine ext_call (i := 4) rfl (by kernel_rfl) (by rfl) (fun K' hK => ?_)
    go_simp
    (go_at_call 45; (with_reducible refine (HM.out _ E0d.out).mono ?_); rintro e w1 ⟨rfl, hx⟩; refine hK _ _ hx ?_; clear hK)
    have Ew1 := Lib.hid (Ext.trans E0d.out hx)
    clear hx
    try simp only [Act.put, List.setIfInBounds_toArray, List.set_cons_zero, List.set_cons_succ]
    refine ext_take (i := 5) (v := ?_) rfl (by kernel_rfl) (by kernel_rfl) (by kernel_rfl) (fun _ _ _ h => h) (by rfl) ?_ ?_
    rotate_left
    · intro W hW; have hW0 := Ext.trans Ew1.out hW; clear hW; go_simp <;> with_reducible rfl
    try simp only [Act.put, List.setIfInBounds_toArray, List.set_cons_zero, List.set_cons_succ]
    refine ext_take (i := 6) (v := ?_) rfl (by kernel_rfl) (by kernel_rfl) (by kernel_rfl) (fun _ _ _ h => h) (by rfl) ?_ ?_
    rotate_left
    · intro W hW; have hW0 := Ext.trans Ew1.out hW; clear hW; go_simp <;> with_reducible rfl
    try simp only [Act.put, List.setIfInBounds_toArray, List.set_cons_zero, List.set_cons_succ]
    refine ext_take (i := 7) (v := ?_) rfl (by kernel_rfl) (by kernel_rfl) (by kernel_rfl) (fun _ _ _ h => h) (by rfl) ?_ ?_
    rotate_left
    · intro W hW; have hW0 := Ext.trans Ew1.out hW; clear hW; go_simp <;> with_reducible rfl
    try simp only [Act.put, List.setIfInBounds_toArray, List.set_cons_zero, List.set_cons_succ]
    refine ext_skip (i := 8) rfl (by kernel_rfl) (by kernel_rfl) (by kernel_rfl) (fun _ _ _ h => h) (by rfl) ?_
    try simp only [Act.put, List.setIfInBounds_toArray, List.set_cons_zero, List.set_cons_succ]
    refine ext_skip (i := 9) rfl (by kernel_rfl) (by kernel_rfl) (by kernel_rfl) (fun _ _ _ h => h) (by rfl) ?_
    try simp only [Act.put, List.setIfInBounds_toArray, List.set_cons_zero, List.set_cons_succ]
    refine ext_skip (i := 10) rfl (by kernel_rfl) (by kernel_rfl) (by kernel_rfl) (fun _ _ _ h => h) (by rfl) ?_
    try simp only [Act.put, List.setIfInBounds_toArray, List.set_cons_zero, List.set_cons_succ]
    refine ext_skip (i := 11) rfl (by kernel_rfl) (by kernel_rfl) (by kernel_rfl) (fun _ _ _ h => h) (by rfl) ?_
    try simp only [Act.put, List.setIfInBounds_toArray, List.set_cons_zero, List.set_cons_succ]
    refine ext_skip (i := 12) rfl (by kernel_rfl) (by kernel_rfl) (by kernel_rfl) (fun _ _ _ h => h) (by rfl) ?_
    try simp only [Act.put, List.setIfInBounds_toArray, List.set_cons_zero, List.set_cons_succ]
    refine ext_skip (i := 13) rfl (by kernel_rfl) (by kernel_rfl) (by kernel_rfl) (fun _ _ _ h => h) (by rfl) ?_
    try simp only [Act.put, List.setIfInBounds_toArray, List.set_cons_zero, List.set_cons_succ]
    refine ext_skip (i := 14) rfl (by kernel_rfl) (by kernel_rfl) (by kernel_rfl) (fun _ _ _ h => h) (by rfl) ?_
    try simp only [Act.put, List.setIfInBounds_toArray, List.set_cons_zero, List.set_cons_succ]
    refine ext_take (i := 15) (v := ?_) rfl (by kernel_rfl) (by kernel_rfl) (by kernel_rfl) (fun _ _ _ h => h) (by rfl) ?_ ?_
    rotate_left
    · intro W hW; have hW0 := Ext.trans Ew1.out hW; clear hW; go_simp <;> with_reducible rfl
    try simp only [Act.put, List.setIfInBounds_toArray, List.set_cons_zero, List.set_cons_succ]
    refine ext_take (i := 16) (v := ?_) rfl (by kernel_rfl) (by kernel_rfl) (by kernel_rfl) (fun _ _ _ h => h) (by rfl) ?_ ?_
    rotate_left
    · intro W hW; have hW0 := Ext.trans Ew1.out hW; clear hW; go_simp <;> with_reducible rfl
    try simp only [Act.put, List.setIfInBounds_toArray, List.set_cons_zero, List.set_cons_succ]
    refine wpAnyH_done (by kernel_rfl) ?_ _
    have EX := Lib.hid Ew1.out
    clear Ew1 E0 E0d
    try go_wp2_with fail
    try go_ret
    exact hD.out _ _ ⟨rfl, EX.out⟩
  case true =>
    cases f
    all_goals
      go_enter Try.func58, Try.ntmps58
      go_wp2_with fail
      refine ext_begin (by kernel_rfl) ?_
      have E0d := Lib.hid (Ext.drewR E0.out)
      refine ext_take (i := 0) (v := ?_) rfl (by kernel_rfl) (by kernel_rfl) (by kernel_rfl) (fun _ _ _ h => h) (by rfl) ?_ ?_
      rotate_left
      · intro W hW; have hW0 := Ext.trans E0d.out hW; clear hW; go_simp <;> with_reducible rfl
      try simp only [Act.put, List.setIfInBounds_toArray, List.set_cons_zero, List.set_cons_succ]
      refine ext_take (i := 1) (v := ?_) rfl (by kernel_rfl) (by kernel_rfl) (by kernel_rfl) (fun _ _ _ h => h) (by rfl) ?_ ?_
      rotate_left
      · intro W hW; have hW0 := Ext.trans E0d.out hW; clear hW; go_simp <;> with_reducible rfl
      try simp only [Act.put, List.setIfInBounds_toArray, List.set_cons_zero, List.set_cons_succ]
      refine ext_take (i := 2) (v := ?_) rfl (by kernel_rfl) (by kernel_rfl) (by kernel_rfl) (fun _ _ _ h => h) (by rfl) ?_ ?_
      rotate_left
      · intro W hW; have hW0 := Ext.trans E0d.out hW; clear hW; go_simp <;> with_reducible rfl
      try simp only [Act.put, List.setIfInBounds_toArray, List.set_cons_zero, List.set_cons_succ]
      refine ext_take (i := 3) (v := ?_) rfl (by kernel_rfl) (by kernel_rfl) (by kernel_rfl) (fun _ _ _ h => h) (by rfl) ?_ ?_
      rotate_left
      · intro W hW; have hW0 := Ext.trans E0d.out hW; clear hW; go_simp <;> with_reducible rfl
      try simp only [Act.put, List.setIfInBounds_toArray, List.set_cons_zero, List.set_cons_succ]
      refine ext_call (i := 4) rfl (by kernel_rfl) (by rfl) (fun K' hK => ?_)
      go_simp
      (go_at_call 45; (with_reducible refine (HM.out _ E0d.out).mono ?_); rintro e w1 ⟨rfl, hx⟩; refine hK _ _ hx ?_; clear hK)
      have Ew1 := Lib.hid (Ext.trans E0d.out hx)
      clear hx
      try simp only [Act.put, List.setIfInBounds_toArray, List.set_cons_zero, List.set_cons_succ]
      refine ext_take (i := 5) (v := ?_) rfl (by kernel_rfl) (by kernel_rfl) (by kernel_rfl) (fun _ _ _ h => h) (by rfl) ?_ ?_
      rotate_left
      · intro W hW; have hW0 := Ext.trans Ew1.out hW; clear hW; go_simp <;> with_reducible rfl
      try simp only [Act.put, List.setIfInBounds_toArray, List.set_cons_zero, List.set_cons_succ]
      refine ext_take (i := 6) (v := ?_) rfl (by kernel_rfl) (by kernel_rfl) (by kernel_rfl) (fun _ _ _ h => h) (by rfl) ?_ ?_
      rotate_left
      · intro W hW; have hW0 := Ext.trans Ew1.out hW; clear hW; go_simp <;> with_reducible rfl
      try simp only [Act.put, List.setIfInBounds_toArray, List.set_cons_zero, List.set_cons_succ]
      refine ext_take (i := 7) (v := ?_) rfl (by kernel_rfl) (by kernel_rfl) (by kernel_rfl) (fun _ _ _ h => h) (by rfl) ?_ ?_
      rotate_left
      · intro W hW; have hW0 := Ext.trans Ew1.out hW; clear hW; go_simp <;> with_reducible rfl
      try simp only [Act.put, List.setIfInBounds_toArray, List.set_cons_zero, List.set_cons_succ]
      refine ext_take (i := 8) (v := ?_) rfl (by kernel_rfl) (by kernel_rfl) (by kernel_rfl) (fun _ _ _ h => h) (by rfl) ?_ ?_
      rotate_left
      · intro W hW; have hW0 := Ext.trans Ew1.out hW; clear hW; go_simp <;> with_reducible rfl
      try simp only [Act.put, List.setIfInBounds_toArray, List.set_cons_zero, List.set_cons_succ]
      refine ext_take (i := 9) (v := ?_) rfl (by kernel_rfl) (by kernel_rfl) (by kernel_rfl) (fun _ _ _ h => h) (by rfl) ?_ ?_
      rotate_left
      · intro W hW; have hW0 := Ext.trans Ew1.out hW; clear hW; go_simp <;> with_reducible rfl
      try simp only [Act.put, List.setIfInBounds_toArray, List.set_cons_zero, List.set_cons_succ]
      refine ext_take (i := 10) (v := ?_) rfl (by kernel_rfl) (by kernel_rfl) (by kernel_rfl) (fun _ _ _ h => h) (by rfl) ?_ ?_
      rotate_left
      · intro W hW; have hW0 := Ext.trans Ew1.out hW; clear hW; go_simp <;> with_reducible rfl
      try simp only [Act.put, List.setIfInBounds_toArray, List.set_cons_zero, List.set_cons_succ]
      refine ext_take (i := 11) (v := ?_) rfl (by kernel_rfl) (by kernel_rfl) (by kernel_rfl) (fun _ _ _ h => h) (by rfl) ?_ ?_
      rotate_left
      · intro W hW; have hW0 := Ext.trans Ew1.out hW; clear hW; go_simp <;> with_reducible rfl
      try simp only [Act.put, List.setIfInBounds_toArray, List.set_cons_zero, List.set_cons_succ]
      refine ext_take (i := 12) (v := ?_) rfl (by kernel_rfl) (by kernel_rfl) (by kernel_rfl) (fun _ _ _ h => h) (by rfl) ?_ ?_
      rotate_left
      · intro W hW; have hW0 := Ext.trans Ew1.out hW; clear hW; go_simp <;> with_reducible rfl
      try simp only [Act.put, List.setIfInBounds_toArray, List.set_cons_zero, List.set_cons_succ]
      refine ext_call (i := 13) rfl (by kernel_rfl) (by rfl) (fun K' hK => ?_)
      go_simp
      (go_at_call 59; (with_reducible refine (HF.out _ Ew1.out).mono ?_); rintro e w2 ⟨rfl, hx⟩; refine hK _ _ hx ?_; clear hK)
      have Ew2 := Lib.hid (Ext.trans Ew1.out hx)
      clear hx
      try simp only [Act.put, List.setIfInBounds_toArray, List.set_cons_zero, List.set_cons_succ]
      refine ext_take (i := 14) (v := ?_) rfl (by kernel_rfl) (by kernel_rfl) (by kernel_rfl) (fun _ _ _ h => h) (by rfl) ?_ ?_
      rotate_left
      · intro W hW; have hW0 := Ext.trans Ew2.out hW; clear hW; go_simp <;> with_reducible rfl
      try simp only [Act.put, List.setIfInBounds_toArray, List.set_cons_zero, List.set_cons_succ]
      refine ext_take (i := 15) (v := ?_) rfl (by kernel_rfl) (by kernel_rfl) (by kernel_rfl) (fun _ _ _ h => h) (by rfl) ?_ ?_
      rotate_left
      · intro W hW; have hW0 := Ext.trans Ew2.out hW; clear hW; go_simp <;> with_reducible rfl
      try simp only [Act.put, List.setIfInBounds_toArray, List.set_cons_zero, List.set_cons_succ]
      refine ext_take (i := 16) (v := ?_) rfl (by kernel_rfl) (by kernel_rfl) (by kernel_rfl) (fun _ _ _ h => h) (by rfl) ?_ ?_
      rotate_left
      · intro W hW; have hW0 := Ext.trans Ew2.out hW; clear hW; go_simp <;> with_reducible rfl
      try simp only [Act.put, List.setIfInBounds_toArray, List.set_cons_zero, List.set_cons_succ]
      refine wpAnyH_done (by kernel_rfl) ?_ _
      have EX := Lib.hid Ew2.out
      clear Ew1 Ew2 E0 E0d
      try go_wp2_with fail
      try go_ret
      exact hD.out _ _ ⟨rfl, EX.out⟩

end Go.Proofs.Ytkdcbidbciognaa
