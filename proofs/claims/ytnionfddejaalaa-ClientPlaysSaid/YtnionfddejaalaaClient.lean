/-
  The client (law 21): what it holds, and what its functions do.
-/
import Derived.Test.YtnionfddejaalaaSet
import Derived.Test.YtnionfddejaalaaHeldZ
import Derived.Test.YtnionfddejaalaaRetry
import Derived.Test.YtnionfddejaalaaRefPutReq
namespace Go.Proofs.Ytnionfddejaalaa
set_option linter.unusedVariables false
set_option linter.unusedSimpArgs false
open Go.RowKit

structure Pd where
  c : Int
  s : Int
  k : Int
  i : Int
  m : Int
  d : ByteArray
  asked : Int
  tries : Int
structure Cs where
  id : Int
  n : Int
  seq : Int
  ep : Int
  ns : List Int
  p : Option Pd
def Pd.vals (q : Pd) : Array Value := #[.int .i64 q.c, .int .i64 q.s, .int .i64 q.k, .int .i64 q.i, .int .i64 q.m, .string q.d, .int .i64 q.asked, .int .i64 q.tries]
def KnAt (w : World) (A : Option Addr) (ns : List Int) : Prop := (A = none ∧ ns = []) ∨ ∃ g cur, A = some ⟨g, 0, none⟩ ∧ Blk w g 3 cur ∧ ∀ (j : Nat) (v : Int), ns[j]? = some v → cur[j]? = some (i64 v)
def PdAt (base : Nat) (w : World) (pv : Value) : Option Pd → Prop
  | none => pv = .pointer none
  | some q => ∃ pp, base ≤ pp ∧ pv = .pointer (some ⟨pp, 0, none⟩) ∧ Blk w pp 89 q.vals
def ClAt (base : Nat) (w : World) (P : Nat) (s : Cs) : Prop :=
  base ≤ P ∧ ∃ A cap pv, Blk w P 87 #[.int .i64 s.id, .int .i64 s.n, .int .i64 s.seq, .int .i64 s.ep, .slice A s.ns.length cap, pv] ∧ KnAt w A s.ns ∧ PdAt base w pv s.p
/-- what a call on a client keeps -/
def Kt (base : Nat) (w w' : World) : Prop := Below base w w' ∧ ∀ g t cs, t ≠ 87 → t ≠ 89 → Blk w g t cs → Blk w' g t cs
theorem Kt.refl (base : Nat) (w : World) : Kt base w w := ⟨Below.refl _ _, fun _ _ _ _ _ h => h⟩
theorem Kt.trans {base : Nat} {w w1 w2 : World} (h : Kt base w w1) (h' : Kt base w1 w2) : Kt base w w2 := ⟨h.1.trans h'.1, fun g t cs h1 h2 h3 => h'.2 g t cs h1 h2 (h.2 g t cs h1 h2 h3)⟩
theorem Kt.ext {base : Nat} {w w' : World} (h : Ext w w') (hb : base ≤ w.heap.size) : Kt base w w' := ⟨Below.mono h hb, fun _ _ _ _ _ h3 => h3.stay h⟩
theorem Kt.set {base g : Nat} {w : World} {t : TypeId} {cs : Array Value} (h : Blk w g t cs) (ht : t = 87 ∨ t = 89) (hg : base ≤ g) (i : Nat) (v : Value) : Kt base w (w.setCell ⟨g, i, none⟩ v) :=
  ⟨(Below.refl _ _).setCell hg _, fun g' t' cs' h1 h2 h3 => h3.far (p := ⟨g, i, none⟩) (fun e => by
    subst e
    have := Blk.apart h3 h (by rcases ht with rfl | rfl; exact h1; exact h2)
    exact this rfl) v⟩
theorem KnAt.of {w w' : World} {A : Option Addr} {ns : List Int} (h : KnAt w A ns) (hk : ∀ g cs, Blk w g 3 cs → Blk w' g 3 cs) : KnAt w' A ns := by
  rcases h with h | ⟨g, cur, h1, h2, h3⟩
  · exact .inl h
  · exact .inr ⟨g, cur, h1, hk _ _ h2, h3⟩
theorem KnAt.kt {base : Nat} {w w' : World} {A : Option Addr} {ns : List Int} (h : KnAt w A ns) (hk : Kt base w w') : KnAt w' A ns := h.of fun g cs => hk.2 g _ cs (by decide) (by decide)
theorem KnAt.stay {w w' : World} {A : Option Addr} {ns : List Int} (h : KnAt w A ns) (hx : Ext w w') : KnAt w' A ns := h.of fun g cs hb => hb.stay hx
theorem KnAt.sl {w : World} {A : Option Addr} {ns : List Int} (h : KnAt w A ns) : Sl i64 w A ns := by
  rcases h with ⟨rfl, rfl⟩ | ⟨g, cur, rfl, h2, h3⟩
  · exact Sl.nil _ _ _
  · exact Sl.of_blk h2 h3
theorem PdAt.stay {base : Nat} {w w' : World} {pv : Value} {p : Option Pd} (h : PdAt base w pv p) (hx : Ext w w') : PdAt base w' pv p := by
  cases p with
  | none => exact h
  | some q => obtain ⟨pp, h1, h2, h3⟩ := h; exact ⟨pp, h1, h2, h3.stay hx⟩
theorem ClAt.stay {base P : Nat} {w w' : World} {s : Cs} (h : ClAt base w P s) (hx : Ext w w') : ClAt base w' P s := by
  obtain ⟨h1, A, cap, pv, h2, h3, h4⟩ := h
  exact ⟨h1, A, cap, pv, h2.stay hx, h3.stay hx, h4.stay hx⟩
theorem ClAt.lt {base P : Nat} {w : World} {s : Cs} (h : ClAt base w P s) : base ≤ w.heap.size := by
  obtain ⟨h1, A, cap, pv, h2, _⟩ := h
  exact Nat.le_trans h1 (Nat.le_of_lt h2.lt)

set_option maxHeartbeats 4000000 in
theorem seq_n (base P : Nat) (id n seq ep : Int) (ns : List Int) (w : World) (H : ClAt base w P ⟨id, n, seq, ep, ns, none⟩) :
    Calls Try.prog 33 #[.pointer (some ⟨P, 0, none⟩)] w fun e w' => e = .returned (.int .i64 seq) ∧ Ext w w' := by
  refine hide_post fun D hD => ?_
  obtain ⟨hbP, A, cap, pv, kC, hk, hp⟩ := H
  obtain rfl : pv = .pointer none := hp
  generalize ns.length = N at *
  have a0 := kC.cell 0
  have a1 := kC.cell 1
  have a2 := kC.cell 2
  have a3 := kC.cell 3
  have a4 := kC.cell 4
  have a5 := kC.cell 5
  simp at a0 a1 a2 a3 a4 a5
  clear hk kC 
  go_enter Try.func33, Try.ntmps33
  go_wp2_with fail
  try go_ret
  exact hD.out _ _ ⟨rfl, by first | exact Ext.refl _ | exact (Ext.refl _).drewR⟩

set_option maxHeartbeats 4000000 in
theorem tries_n (base P : Nat) (id n seq ep : Int) (ns : List Int) (w : World) (H : ClAt base w P ⟨id, n, seq, ep, ns, none⟩) :
    Calls Try.prog 34 #[.pointer (some ⟨P, 0, none⟩)] w fun e w' => e = .returned (.int .i64 0) ∧ Ext w w' := by
  refine hide_post fun D hD => ?_
  obtain ⟨hbP, A, cap, pv, kC, hk, hp⟩ := H
  obtain rfl : pv = .pointer none := hp
  generalize ns.length = N at *
  have a0 := kC.cell 0
  have a1 := kC.cell 1
  have a2 := kC.cell 2
  have a3 := kC.cell 3
  have a4 := kC.cell 4
  have a5 := kC.cell 5
  simp at a0 a1 a2 a3 a4 a5
  clear hk kC 
  go_enter Try.func34, Try.ntmps34
  go_wp2_with fail
  try go_ret
  exact hD.out _ _ ⟨rfl, by first | exact Ext.refl _ | exact (Ext.refl _).drewR⟩

set_option maxHeartbeats 4000000 in
theorem seq_s (base P : Nat) (id n seq ep : Int) (ns : List Int) (c s k i m : Int) (d : ByteArray) (ak tr : Int) (w : World) (H : ClAt base w P ⟨id, n, seq, ep, ns, (some ⟨c, s, k, i, m, d, ak, tr⟩)⟩) :
    Calls Try.prog 33 #[.pointer (some ⟨P, 0, none⟩)] w fun e w' => e = .returned (.int .i64 seq) ∧ Ext w w' := by
  refine hide_post fun D hD => ?_
  obtain ⟨hbP, A, cap, pv, kC, hk, hp⟩ := H
  obtain ⟨pp, hpp, rfl, kP⟩ := hp
  have kP' : Blk w pp 89 #[.int .i64 c, .int .i64 s, .int .i64 k, .int .i64 i, .int .i64 m, .string d, .int .i64 ak, .int .i64 tr] := kP
  generalize ns.length = N at *
  have a0 := kC.cell 0
  have a1 := kC.cell 1
  have a2 := kC.cell 2
  have a3 := kC.cell 3
  have a4 := kC.cell 4
  have a5 := kC.cell 5
  simp at a0 a1 a2 a3 a4 a5
  have b0 := kP'.cell 0
  have b1 := kP'.cell 1
  have b2 := kP'.cell 2
  have b3 := kP'.cell 3
  have b4 := kP'.cell 4
  have b5 := kP'.cell 5
  have b6 := kP'.cell 6
  have b7 := kP'.cell 7
  simp at b0 b1 b2 b3 b4 b5 b6 b7
  clear hk kC kP kP'
  go_enter Try.func33, Try.ntmps33
  go_wp2_with fail
  try go_ret
  exact hD.out _ _ ⟨rfl, by first | exact Ext.refl _ | exact (Ext.refl _).drewR⟩

set_option maxHeartbeats 4000000 in
theorem tries_s (base P : Nat) (id n seq ep : Int) (ns : List Int) (c s k i m : Int) (d : ByteArray) (ak tr : Int) (w : World) (H : ClAt base w P ⟨id, n, seq, ep, ns, (some ⟨c, s, k, i, m, d, ak, tr⟩)⟩) :
    Calls Try.prog 34 #[.pointer (some ⟨P, 0, none⟩)] w fun e w' => e = .returned (.int .i64 tr) ∧ Ext w w' := by
  refine hide_post fun D hD => ?_
  obtain ⟨hbP, A, cap, pv, kC, hk, hp⟩ := H
  obtain ⟨pp, hpp, rfl, kP⟩ := hp
  have kP' : Blk w pp 89 #[.int .i64 c, .int .i64 s, .int .i64 k, .int .i64 i, .int .i64 m, .string d, .int .i64 ak, .int .i64 tr] := kP
  generalize ns.length = N at *
  have a0 := kC.cell 0
  have a1 := kC.cell 1
  have a2 := kC.cell 2
  have a3 := kC.cell 3
  have a4 := kC.cell 4
  have a5 := kC.cell 5
  simp at a0 a1 a2 a3 a4 a5
  have b0 := kP'.cell 0
  have b1 := kP'.cell 1
  have b2 := kP'.cell 2
  have b3 := kP'.cell 3
  have b4 := kP'.cell 4
  have b5 := kP'.cell 5
  have b6 := kP'.cell 6
  have b7 := kP'.cell 7
  simp at b0 b1 b2 b3 b4 b5 b6 b7
  clear hk kC kP kP'
  go_enter Try.func34, Try.ntmps34
  go_wp2_with fail
  try go_ret
  exact hD.out _ _ ⟨rfl, by first | exact Ext.refl _ | exact (Ext.refl _).drewR⟩

set_option maxHeartbeats 4000000 in
theorem is_n (base P : Nat) (id n seq ep : Int) (ns : List Int) (x : Int) (w : World) (H : ClAt base w P ⟨id, n, seq, ep, ns, none⟩) :
    Calls Try.prog 47 #[.pointer (some ⟨P, 0, none⟩), .int .i64 x] w fun e w' => e = .returned (.bool false) ∧ Ext w w' := by
  refine hide_post fun D hD => ?_
  obtain ⟨hbP, A, cap, pv, kC, hk, hp⟩ := H
  obtain rfl : pv = .pointer none := hp
  generalize ns.length = N at *
  have a0 := kC.cell 0
  have a1 := kC.cell 1
  have a2 := kC.cell 2
  have a3 := kC.cell 3
  have a4 := kC.cell 4
  have a5 := kC.cell 5
  simp at a0 a1 a2 a3 a4 a5
  clear hk kC 

  go_enter Try.func47, Try.ntmps47
  go_wp2_with fail
  try go_ret
  exact hD.out _ _ ⟨by first | rfl | exact ret_bool (by rfl), by first | exact Ext.refl _ | exact (Ext.refl _).drewR⟩

set_option maxHeartbeats 4000000 in
theorem is_y (base P : Nat) (id n seq ep : Int) (ns : List Int) (c s k i m : Int) (d : ByteArray) (ak tr : Int) (x : Int) (w : World) (H : ClAt base w P ⟨id, n, seq, ep, ns, (some ⟨c, s, k, i, m, d, ak, tr⟩)⟩) (hx : s = x) :
    Calls Try.prog 47 #[.pointer (some ⟨P, 0, none⟩), .int .i64 x] w fun e w' => e = .returned (.bool true) ∧ Ext w w' := by
  refine hide_post fun D hD => ?_
  obtain ⟨hbP, A, cap, pv, kC, hk, hp⟩ := H
  obtain ⟨pp, hpp, rfl, kP⟩ := hp
  have kP' : Blk w pp 89 #[.int .i64 c, .int .i64 s, .int .i64 k, .int .i64 i, .int .i64 m, .string d, .int .i64 ak, .int .i64 tr] := kP
  generalize ns.length = N at *
  have a0 := kC.cell 0
  have a1 := kC.cell 1
  have a2 := kC.cell 2
  have a3 := kC.cell 3
  have a4 := kC.cell 4
  have a5 := kC.cell 5
  simp at a0 a1 a2 a3 a4 a5
  have b0 := kP'.cell 0
  have b1 := kP'.cell 1
  have b2 := kP'.cell 2
  have b3 := kP'.cell 3
  have b4 := kP'.cell 4
  have b5 := kP'.cell 5
  have b6 := kP'.cell 6
  have b7 := kP'.cell 7
  simp at b0 b1 b2 b3 b4 b5 b6 b7
  clear hk kC kP kP'
  subst hx
  go_enter Try.func47, Try.ntmps47
  go_wp2_with fail
  try go_ret
  exact hD.out _ _ ⟨by first | rfl | exact ret_bool (by rfl), by first | exact Ext.refl _ | exact (Ext.refl _).drewR⟩

set_option maxHeartbeats 4000000 in
theorem is_o (base P : Nat) (id n seq ep : Int) (ns : List Int) (c s k i m : Int) (d : ByteArray) (ak tr : Int) (x : Int) (w : World) (H : ClAt base w P ⟨id, n, seq, ep, ns, (some ⟨c, s, k, i, m, d, ak, tr⟩)⟩) (hx : ¬ s = x) :
    Calls Try.prog 47 #[.pointer (some ⟨P, 0, none⟩), .int .i64 x] w fun e w' => e = .returned (.bool false) ∧ Ext w w' := by
  refine hide_post fun D hD => ?_
  obtain ⟨hbP, A, cap, pv, kC, hk, hp⟩ := H
  obtain ⟨pp, hpp, rfl, kP⟩ := hp
  have kP' : Blk w pp 89 #[.int .i64 c, .int .i64 s, .int .i64 k, .int .i64 i, .int .i64 m, .string d, .int .i64 ak, .int .i64 tr] := kP
  generalize ns.length = N at *
  have a0 := kC.cell 0
  have a1 := kC.cell 1
  have a2 := kC.cell 2
  have a3 := kC.cell 3
  have a4 := kC.cell 4
  have a5 := kC.cell 5
  simp at a0 a1 a2 a3 a4 a5
  have b0 := kP'.cell 0
  have b1 := kP'.cell 1
  have b2 := kP'.cell 2
  have b3 := kP'.cell 3
  have b4 := kP'.cell 4
  have b5 := kP'.cell 5
  have b6 := kP'.cell 6
  have b7 := kP'.cell 7
  simp at b0 b1 b2 b3 b4 b5 b6 b7
  clear hk kC kP kP'

  go_enter Try.func47, Try.ntmps47
  go_wp2_with fail
  try go_ret
  exact hD.out _ _ ⟨by first | rfl | exact ret_bool (by simp [hx]), by first | exact Ext.refl _ | exact (Ext.refl _).drewR⟩

set_option maxRecDepth 8000 in
set_option maxHeartbeats 8000000 in
theorem try_any (base P : Nat) (id n seq ep : Int) (ns : List Int) (c s k i m : Int) (d : ByteArray) (ak tr now t1 : Int) (w : World) (H : ClAt base w P ⟨id, n, seq, ep, ns, some ⟨c, s, k, i, m, d, ak, tr⟩⟩) (hns : ns.length ≤ 1000) (h0 : 0 ≤ tr) (h1 : tr ≤ 1000000) (ht1 : t1 = tr + 1) :
    Calls Try.prog 42 #[.pointer (some ⟨P, 0, none⟩), .int .i64 now] w fun e w' => e = .returned (.int .i64 (targetF ns n t1 (decide (k = 1 ∨ k = 2 ∨ k = 3)))) ∧ ClAt base w' P ⟨id, n, seq, ep, ns, some ⟨c, s, k, i, m, d, now, t1⟩⟩ ∧ Kt base w w' := by
  refine hide_post fun D hD => ?_
  obtain ⟨hbP, A, cap, pv, kC, hk, hp⟩ := H
  obtain ⟨pp, hpp, rfl, kP⟩ := hp
  have hPp : P ≠ pp := Blk.apart kC kP (by decide)
  obtain ⟨N, hN⟩ : ∃ N, N = ns.length := ⟨_, rfl⟩
  have kC' : Blk w P 87 #[.int .i64 id, .int .i64 n, .int .i64 seq, .int .i64 ep, .slice A N cap, (.pointer (some ⟨pp, 0, none⟩))] := by rw [hN]; exact kC
  have kP' : Blk w pp 89 #[.int .i64 c, .int .i64 s, .int .i64 k, .int .i64 i, .int .i64 m, .string d, .int .i64 ak, .int .i64 tr] := kP
  have a0 := kC'.cell 0
  have a1 := kC'.cell 1
  have a2 := kC'.cell 2
  have a3 := kC'.cell 3
  have a4 := kC'.cell 4
  have a5 := kC'.cell 5
  simp at a0 a1 a2 a3 a4 a5
  have b0 := kP'.cell 0
  have b1 := kP'.cell 1
  have b2 := kP'.cell 2
  have b3 := kP'.cell 3
  have b4 := kP'.cell 4
  have b5 := kP'.cell 5
  have b6 := kP'.cell 6
  have b7 := kP'.cell 7
  simp at b0 b1 b2 b3 b4 b5 b6 b7
  have f6 := kP'.frozen 6
  have kC1 := kC'.far (p := ⟨pp, 6, none⟩) hPp (.int .i64 now)
  have kP1 : Blk (w.setCell ⟨pp, 6, none⟩ (.int .i64 now)) pp 89 #[.int .i64 c, .int .i64 s, .int .i64 k, .int .i64 i, .int .i64 m, .string d, .int .i64 now, .int .i64 tr] := kP'.set 6 _
  have g0 := kC1.cell 0
  have g1 := kC1.cell 1
  have g2 := kC1.cell 2
  have g3 := kC1.cell 3
  have g4 := kC1.cell 4
  have g5 := kC1.cell 5
  simp at g0 g1 g2 g3 g4 g5
  have e0 := kP1.cell 0
  have e1 := kP1.cell 1
  have e2 := kP1.cell 2
  have e3 := kP1.cell 3
  have e4 := kP1.cell 4
  have e5 := kP1.cell 5
  have e6 := kP1.cell 6
  have e7 := kP1.cell 7
  simp at e0 e1 e2 e3 e4 e5 e6 e7
  have f7 := kP1.frozen 7
  have hwt : wrap64 (tr + 1) = t1 := by rw [ht1]; unfold wrap64; omega
  obtain ⟨W2, hW2⟩ : ∃ W2, W2 = ((w.setCell ⟨pp, 6, none⟩ (.int .i64 now)).setCell ⟨pp, 7, none⟩ (.int .i64 t1)) := ⟨_, rfl⟩
  have kC2 : Blk W2 P 87 #[.int .i64 id, .int .i64 n, .int .i64 seq, .int .i64 ep, .slice A N cap, (.pointer (some ⟨pp, 0, none⟩))] := by rw [hW2]; exact kC1.far (p := ⟨pp, 7, none⟩) hPp _
  have kP2 : Blk W2 pp 89 #[.int .i64 c, .int .i64 s, .int .i64 k, .int .i64 i, .int .i64 m, .string d, .int .i64 now, .int .i64 t1] := by rw [hW2]; exact kP1.set 7 _
  have hkt : Kt base w W2 := by rw [hW2]; exact (Kt.set kP' (.inr rfl) hpp 6 _).trans (Kt.set kP1 (.inr rfl) hpp 7 _)
  have hk2 := hk.kt hkt
  have CW : Hid (∀ V, Ext W2 V → Calls Try.prog 55 #[.agg #[.int .i64 c, .int .i64 s, .int .i64 k, .int .i64 i, .int .i64 m, .string d]] V fun e w' => e = .returned (.bool (decide (k = 1 ∨ k = 2 ∨ k = 3))) ∧ Ext V w') := fun V _ => writes_any c s k i m d V
  have CT : Hid (∀ V, Ext W2 V → Calls Try.prog 54 #[.agg #[.int .i64 ep, .slice A N cap], .int .i64 n, .int .i64 t1, .bool (decide (k = 1 ∨ k = 2 ∨ k = 3))] V fun e w' => e = .returned (.int .i64 (targetF ns n t1 (decide (k = 1 ∨ k = 2 ∨ k = 3)))) ∧ Ext V w') := fun V hV => by
    rw [hN]
    exact target_any ep A cap ns n t1 (decide (k = 1 ∨ k = 2 ∨ k = 3)) V (by omega) (hk2.sl.stay hV)
  have HE : Hid (∀ V, Ext W2 V → D (.returned (.int .i64 (targetF ns n t1 (decide (k = 1 ∨ k = 2 ∨ k = 3))))) V) := fun V hV => hD.out _ _ ⟨rfl, ⟨hbP, A, cap, _, by rw [← hN]; exact kC2.stay hV, hk2.stay hV, pp, hpp, rfl, kP2.stay hV⟩, hkt.trans (Kt.ext hV (Nat.le_trans hbP (Nat.le_of_lt kC2.lt)))⟩
  have fc0 : ∀ V, Ext W2 V → V.cell? ⟨P, 0, none⟩ = some (.int .i64 id) := fun V h => (kC2.stay h).cell 0
  have fc1 : ∀ V, Ext W2 V → V.cell? ⟨P, 1, none⟩ = some (.int .i64 n) := fun V h => (kC2.stay h).cell 1
  have fc2 : ∀ V, Ext W2 V → V.cell? ⟨P, 2, none⟩ = some (.int .i64 seq) := fun V h => (kC2.stay h).cell 2
  have fc3 : ∀ V, Ext W2 V → V.cell? ⟨P, 3, none⟩ = some (.int .i64 ep) := fun V h => (kC2.stay h).cell 3
  have fc4 : ∀ V, Ext W2 V → V.cell? ⟨P, 4, none⟩ = some (.slice A N cap) := fun V h => (kC2.stay h).cell 4
  have fc5 : ∀ V, Ext W2 V → V.cell? ⟨P, 5, none⟩ = some ((.pointer (some ⟨pp, 0, none⟩))) := fun V h => (kC2.stay h).cell 5
  have fp0 : ∀ V, Ext W2 V → V.cell? ⟨pp, 0, none⟩ = some (.int .i64 c) := fun V h => (kP2.stay h).cell 0
  have fp1 : ∀ V, Ext W2 V → V.cell? ⟨pp, 1, none⟩ = some (.int .i64 s) := fun V h => (kP2.stay h).cell 1
  have fp2 : ∀ V, Ext W2 V → V.cell? ⟨pp, 2, none⟩ = some (.int .i64 k) := fun V h => (kP2.stay h).cell 2
  have fp3 : ∀ V, Ext W2 V → V.cell? ⟨pp, 3, none⟩ = some (.int .i64 i) := fun V h => (kP2.stay h).cell 3
  have fp4 : ∀ V, Ext W2 V → V.cell? ⟨pp, 4, none⟩ = some (.int .i64 m) := fun V h => (kP2.stay h).cell 4
  have fp5 : ∀ V, Ext W2 V → V.cell? ⟨pp, 5, none⟩ = some (.string d) := fun V h => (kP2.stay h).cell 5
  have fp6 : ∀ V, Ext W2 V → V.cell? ⟨pp, 6, none⟩ = some (.int .i64 now) := fun V h => (kP2.stay h).cell 6
  have fp7 : ∀ V, Ext W2 V → V.cell? ⟨pp, 7, none⟩ = some (.int .i64 t1) := fun V h => (kP2.stay h).cell 7
  have HW2 := Lib.hid hW2
  clear kC kC' kC1 kC2 kP kP' kP1 kP2 hk hk2 hkt hW2 hns ht1 hN h0 h1 hD
  generalize targetF ns n t1 (decide (k = 1 ∨ k = 2 ∨ k = 3)) = r at *
  generalize (decide (k = 1 ∨ k = 2 ∨ k = 3)) = bw at *
  have E2 : Hid (Ext W2 W2) := Ext.refl _
  go_enter Try.func42, Try.ntmps42
  go_wp2_with fail
  rw [← HW2.out]
  refine ext_begin (by kernel_rfl) ?_
  have E2d := Lib.hid (Ext.drewR E2.out)
  refine ext_take (i := 0) (v := ?_) rfl (by kernel_rfl) (by kernel_rfl) (by kernel_rfl) (fun _ _ _ h => h) (by rfl) ?_ ?_
  rotate_left
  · intro W hW; have hW0 := Ext.trans E2d.out hW; clear hW; go_simp <;> with_reducible rfl
  try simp only [Act.put, List.setIfInBounds_toArray, List.set_cons_zero, List.set_cons_succ]
  refine ext_take (i := 1) (v := ?_) rfl (by kernel_rfl) (by kernel_rfl) (by kernel_rfl) (fun _ _ _ h => h) (by rfl) ?_ ?_
  rotate_left
  · intro W hW; have hW0 := Ext.trans E2d.out hW; clear hW; go_simp <;> with_reducible rfl
  try simp only [Act.put, List.setIfInBounds_toArray, List.set_cons_zero, List.set_cons_succ]
  refine ext_take (i := 2) (v := ?_) rfl (by kernel_rfl) (by kernel_rfl) (by kernel_rfl) (fun _ _ _ h => h) (by rfl) ?_ ?_
  rotate_left
  · intro W hW; have hW0 := Ext.trans E2d.out hW; clear hW; go_simp <;> with_reducible rfl
  try simp only [Act.put, List.setIfInBounds_toArray, List.set_cons_zero, List.set_cons_succ]
  refine ext_take (i := 3) (v := ?_) rfl (by kernel_rfl) (by kernel_rfl) (by kernel_rfl) (fun _ _ _ h => h) (by rfl) ?_ ?_
  rotate_left
  · intro W hW; have hW0 := Ext.trans E2d.out hW; clear hW; go_simp <;> with_reducible rfl
  try simp only [Act.put, List.setIfInBounds_toArray, List.set_cons_zero, List.set_cons_succ]
  refine ext_take (i := 4) (v := ?_) rfl (by kernel_rfl) (by kernel_rfl) (by kernel_rfl) (fun _ _ _ h => h) (by rfl) ?_ ?_
  rotate_left
  · intro W hW; have hW0 := Ext.trans E2d.out hW; clear hW; go_simp <;> with_reducible rfl
  try simp only [Act.put, List.setIfInBounds_toArray, List.set_cons_zero, List.set_cons_succ]
  refine ext_take (i := 5) (v := ?_) rfl (by kernel_rfl) (by kernel_rfl) (by kernel_rfl) (fun _ _ _ h => h) (by rfl) ?_ ?_
  rotate_left
  · intro W hW; have hW0 := Ext.trans E2d.out hW; clear hW; go_simp <;> with_reducible rfl
  try simp only [Act.put, List.setIfInBounds_toArray, List.set_cons_zero, List.set_cons_succ]
  refine ext_take (i := 6) (v := ?_) rfl (by kernel_rfl) (by kernel_rfl) (by kernel_rfl) (fun _ _ _ h => h) (by rfl) ?_ ?_
  rotate_left
  · intro W hW; have hW0 := Ext.trans E2d.out hW; clear hW; go_simp <;> with_reducible rfl
  try simp only [Act.put, List.setIfInBounds_toArray, List.set_cons_zero, List.set_cons_succ]
  refine ext_take (i := 7) (v := ?_) rfl (by kernel_rfl) (by kernel_rfl) (by kernel_rfl) (fun _ _ _ h => h) (by rfl) ?_ ?_
  rotate_left
  · intro W hW; have hW0 := Ext.trans E2d.out hW; clear hW; go_simp <;> with_reducible rfl
  try simp only [Act.put, List.setIfInBounds_toArray, List.set_cons_zero, List.set_cons_succ]
  refine ext_take (i := 8) (v := ?_) rfl (by kernel_rfl) (by kernel_rfl) (by kernel_rfl) (fun _ _ _ h => h) (by rfl) ?_ ?_
  rotate_left
  · intro W hW; have hW0 := Ext.trans E2d.out hW; clear hW; go_simp <;> with_reducible rfl
  try simp only [Act.put, List.setIfInBounds_toArray, List.set_cons_zero, List.set_cons_succ]
  refine ext_take (i := 9) (v := ?_) rfl (by kernel_rfl) (by kernel_rfl) (by kernel_rfl) (fun _ _ _ h => h) (by rfl) ?_ ?_
  rotate_left
  · intro W hW; have hW0 := Ext.trans E2d.out hW; clear hW; go_simp <;> with_reducible rfl
  try simp only [Act.put, List.setIfInBounds_toArray, List.set_cons_zero, List.set_cons_succ]
  refine ext_take (i := 10) (v := ?_) rfl (by kernel_rfl) (by kernel_rfl) (by kernel_rfl) (fun _ _ _ h => h) (by rfl) ?_ ?_
  rotate_left
  · intro W hW; have hW0 := Ext.trans E2d.out hW; clear hW; go_simp <;> with_reducible rfl
  try simp only [Act.put, List.setIfInBounds_toArray, List.set_cons_zero, List.set_cons_succ]
  refine ext_take (i := 11) (v := ?_) rfl (by kernel_rfl) (by kernel_rfl) (by kernel_rfl) (fun _ _ _ h => h) (by rfl) ?_ ?_
  rotate_left
  · intro W hW; have hW0 := Ext.trans E2d.out hW; clear hW; go_simp <;> with_reducible rfl
  try simp only [Act.put, List.setIfInBounds_toArray, List.set_cons_zero, List.set_cons_succ]
  refine ext_take (i := 12) (v := ?_) rfl (by kernel_rfl) (by kernel_rfl) (by kernel_rfl) (fun _ _ _ h => h) (by rfl) ?_ ?_
  rotate_left
  · intro W hW; have hW0 := Ext.trans E2d.out hW; clear hW; go_simp <;> with_reducible rfl
  try simp only [Act.put, List.setIfInBounds_toArray, List.set_cons_zero, List.set_cons_succ]
  refine ext_take (i := 13) (v := ?_) rfl (by kernel_rfl) (by kernel_rfl) (by kernel_rfl) (fun _ _ _ h => h) (by rfl) ?_ ?_
  rotate_left
  · intro W hW; have hW0 := Ext.trans E2d.out hW; clear hW; go_simp <;> with_reducible rfl
  try simp only [Act.put, List.setIfInBounds_toArray, List.set_cons_zero, List.set_cons_succ]
  refine ext_take (i := 14) (v := ?_) rfl (by kernel_rfl) (by kernel_rfl) (by kernel_rfl) (fun _ _ _ h => h) (by rfl) ?_ ?_
  rotate_left
  · intro W hW; have hW0 := Ext.trans E2d.out hW; clear hW; go_simp <;> with_reducible rfl
  try simp only [Act.put, List.setIfInBounds_toArray, List.set_cons_zero, List.set_cons_succ]
  refine ext_take (i := 15) (v := ?_) rfl (by kernel_rfl) (by kernel_rfl) (by kernel_rfl) (fun _ _ _ h => h) (by rfl) ?_ ?_
  rotate_left
  · intro W hW; have hW0 := Ext.trans E2d.out hW; clear hW; go_simp <;> with_reducible rfl
  try simp only [Act.put, List.setIfInBounds_toArray, List.set_cons_zero, List.set_cons_succ]
  refine ext_take (i := 16) (v := ?_) rfl (by kernel_rfl) (by kernel_rfl) (by kernel_rfl) (fun _ _ _ h => h) (by rfl) ?_ ?_
  rotate_left
  · intro W hW; have hW0 := Ext.trans E2d.out hW; clear hW; go_simp <;> with_reducible rfl
  try simp only [Act.put, List.setIfInBounds_toArray, List.set_cons_zero, List.set_cons_succ]
  refine ext_take (i := 17) (v := ?_) rfl (by kernel_rfl) (by kernel_rfl) (by kernel_rfl) (fun _ _ _ h => h) (by rfl) ?_ ?_
  rotate_left
  · intro W hW; have hW0 := Ext.trans E2d.out hW; clear hW; go_simp <;> with_reducible rfl
  try simp only [Act.put, List.setIfInBounds_toArray, List.set_cons_zero, List.set_cons_succ]
  refine ext_take (i := 18) (v := ?_) rfl (by kernel_rfl) (by kernel_rfl) (by kernel_rfl) (fun _ _ _ h => h) (by rfl) ?_ ?_
  rotate_left
  · intro W hW; have hW0 := Ext.trans E2d.out hW; clear hW; go_simp <;> with_reducible rfl
  try simp only [Act.put, List.setIfInBounds_toArray, List.set_cons_zero, List.set_cons_succ]
  refine ext_take (i := 19) (v := ?_) rfl (by kernel_rfl) (by kernel_rfl) (by kernel_rfl) (fun _ _ _ h => h) (by rfl) ?_ ?_
  rotate_left
  · intro W hW; have hW0 := Ext.trans E2d.out hW; clear hW; go_simp <;> with_reducible rfl
  try simp only [Act.put, List.setIfInBounds_toArray, List.set_cons_zero, List.set_cons_succ]
  refine ext_take (i := 20) (v := ?_) rfl (by kernel_rfl) (by kernel_rfl) (by kernel_rfl) (fun _ _ _ h => h) (by rfl) ?_ ?_
  rotate_left
  · intro W hW; have hW0 := Ext.trans E2d.out hW; clear hW; go_simp <;> with_reducible rfl
  try simp only [Act.put, List.setIfInBounds_toArray, List.set_cons_zero, List.set_cons_succ]
  refine ext_take (i := 21) (v := ?_) rfl (by kernel_rfl) (by kernel_rfl) (by kernel_rfl) (fun _ _ _ h => h) (by rfl) ?_ ?_
  rotate_left
  · intro W hW; have hW0 := Ext.trans E2d.out hW; clear hW; go_simp <;> with_reducible rfl
  try simp only [Act.put, List.setIfInBounds_toArray, List.set_cons_zero, List.set_cons_succ]
  refine ext_call (i := 22) rfl (by kernel_rfl) (by rfl) (fun K' hK => ?_)
  go_simp
  (go_at_call 55; (with_reducible refine (CW.out _ E2d.out).mono ?_); rintro e w4 ⟨rfl, hx⟩; refine hK _ _ hx ?_; clear hK)
  have Ew4 := Lib.hid (Ext.trans E2d.out hx)
  clear hx
  try simp only [Act.put, List.setIfInBounds_toArray, List.set_cons_zero, List.set_cons_succ]
  refine ext_call (i := 23) rfl (by kernel_rfl) (by rfl) (fun K' hK => ?_)
  go_simp
  (go_at_call 54; (with_reducible refine (CT.out _ Ew4.out).mono ?_); rintro e w5 ⟨rfl, hx⟩; refine hK _ _ hx ?_; clear hK)
  have Ew5 := Lib.hid (Ext.trans Ew4.out hx)
  clear hx
  try simp only [Act.put, List.setIfInBounds_toArray, List.set_cons_zero, List.set_cons_succ]
  refine ext_take (i := 24) (v := ?_) rfl (by kernel_rfl) (by kernel_rfl) (by kernel_rfl) (fun _ _ _ h => h) (by rfl) ?_ ?_
  rotate_left
  · intro W hW; have hW0 := Ext.trans Ew5.out hW; clear hW; go_simp <;> with_reducible rfl
  try simp only [Act.put, List.setIfInBounds_toArray, List.set_cons_zero, List.set_cons_succ]
  refine wpAnyH_done (by kernel_rfl) ?_ _
  have EX := Lib.hid Ew5.out
  clear Ew4 Ew5 E2d E2
  try go_wp2_with fail
  try go_ret
  exact HE.out _ EX.out

end Go.Proofs.Ytnionfddejaalaa
