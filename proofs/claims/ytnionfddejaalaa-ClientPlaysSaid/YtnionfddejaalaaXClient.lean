/-
  The document's client: what it holds, and what its functions do.
-/
import Derived.Test.YtnionfddejaalaaClient3
import Derived.Test.YtnionfddejaalaaRefTarget
import Derived.Test.YtnionfddejaalaaRefMay
import Derived.Test.YtnionfddejaalaaRefMayCh
namespace Go.Proofs.Ytnionfddejaalaa
set_option linter.unusedVariables false
set_option linter.unusedSimpArgs false
open Go.RowKit

def XAt (w : World) (X : Nat) (s : Cs) : Prop := ∃ A cap, KnAt w A s.ns ∧
  match s.p with
  | none => ∃ ak : Int, Blk w X 61 #[.int .i64 s.id, .int .i64 s.n, .int .i64 s.seq, .int .i64 ak, .int .i64 0, .int .i64 0, .int .i64 0, .int .i64 0, .int .i64 0, .int .i64 0, .string ⟨#[]⟩, .int .i64 s.ep, .slice A s.ns.length cap]
  | some q => Blk w X 61 #[.int .i64 s.id, .int .i64 s.n, .int .i64 s.seq, .int .i64 q.asked, .int .i64 q.tries, .int .i64 q.c, .int .i64 q.s, .int .i64 q.k, .int .i64 q.i, .int .i64 q.m, .string q.d, .int .i64 s.ep, .slice A s.ns.length cap]
/-- what a call on the document's client keeps -/
def Kx (base : Nat) (w w' : World) : Prop := Below base w w' ∧ ∀ g t cs, t ≠ 61 → Blk w g t cs → Blk w' g t cs
theorem Kx.refl (base : Nat) (w : World) : Kx base w w := ⟨Below.refl _ _, fun _ _ _ _ h => h⟩
theorem Kx.trans {base : Nat} {w w1 w2 : World} (h : Kx base w w1) (h' : Kx base w1 w2) : Kx base w w2 := ⟨h.1.trans h'.1, fun g t cs h1 h3 => h'.2 g t cs h1 (h.2 g t cs h1 h3)⟩
theorem Kx.ext {base : Nat} {w w' : World} (h : Ext w w') (hb : base ≤ w.heap.size) : Kx base w w' := ⟨Below.mono h hb, fun _ _ _ _ h3 => h3.stay h⟩
theorem Kx.set {base g : Nat} {w : World} {cs : Array Value} (h : Blk w g 61 cs) (hg : base ≤ g) (i : Nat) (v : Value) : Kx base w (w.setCell ⟨g, i, none⟩ v) :=
  ⟨(Below.refl _ _).setCell hg _, fun g' t' cs' h1 h3 => h3.far (p := ⟨g, i, none⟩) (fun e => by
    subst e
    exact Blk.apart h3 h h1 rfl) v⟩
theorem KnAt.kx {base : Nat} {w w' : World} {A : Option Addr} {ns : List Int} (h : KnAt w A ns) (hk : Kx base w w') : KnAt w' A ns := h.of fun g cs hb => hk.2 g _ cs (by decide) hb
theorem ClAt.kx {base b2 P : Nat} {w w' : World} {s : Cs} (h : ClAt base w P s) (hk : Kx b2 w w') : ClAt base w' P s := by
  obtain ⟨h1, A, cap, pv, h2, h3, h4⟩ := h
  refine ⟨h1, A, cap, pv, hk.2 _ _ _ (by decide) h2, h3.kx hk, ?_⟩
  cases hp : s.p with
  | none => rw [hp] at h4; exact h4
  | some q => rw [hp] at h4; obtain ⟨pp, g1, g2, g3⟩ := h4; exact ⟨pp, g1, g2, hk.2 _ _ _ (by decide) g3⟩
theorem XAt.of {w w' : World} {X : Nat} {s : Cs} (h : XAt w X s) (hi : ∀ g cs, Blk w g 3 cs → Blk w' g 3 cs) (hx : ∀ cs, Blk w X 61 cs → Blk w' X 61 cs) : XAt w' X s := by
  obtain ⟨A, cap, h1, h2⟩ := h
  refine ⟨A, cap, h1.of hi, ?_⟩
  cases hp : s.p with
  | none => rw [hp] at h2; obtain ⟨ak, h3⟩ := h2; exact ⟨ak, hx _ h3⟩
  | some q => rw [hp] at h2; exact hx _ h2
theorem XAt.kt {base X : Nat} {w w' : World} {s : Cs} (h : XAt w X s) (hk : Kt base w w') : XAt w' X s := h.of (fun g cs => hk.2 g _ cs (by decide) (by decide)) (fun cs => hk.2 X _ cs (by decide) (by decide))
theorem XAt.stay {X : Nat} {w w' : World} {s : Cs} (h : XAt w X s) (hk : Ext w w') : XAt w' X s := h.of (fun g cs hb => hb.stay hk) (fun cs hb => hb.stay hk)

set_option maxRecDepth 8000 in
set_option maxHeartbeats 8000000 in
theorem xtick_n (base X : Nat) (id n seq ep : Int) (ns : List Int) (now : Int) (w : World) (H : XAt w X ⟨id, n, seq, ep, ns, none⟩) (hbX : base ≤ X) (hbw : base ≤ w.heap.size) :
    Calls Try.prog 27 #[.pointer (some ⟨X, 0, none⟩), .int .i64 now] w fun e w' => e = .returned (.tuple #[.int .i64 (-1), .bool false]) ∧ Ext w w' := by
  refine hide_post fun D hD => ?_
  have HXA := Lib.hid H
  have HBX : Hid (base ≤ X ∧ base ≤ w.heap.size) := ⟨hbX, hbw⟩
  obtain ⟨A, cap, hk, ak, kX0⟩ := H
  obtain ⟨N, hN⟩ : ∃ N, N = ns.length := ⟨_, rfl⟩
  have kX : Blk w X 61 #[.int .i64 id, .int .i64 n, .int .i64 seq, .int .i64 ak, .int .i64 0, .int .i64 0, .int .i64 0, .int .i64 0, .int .i64 0, .int .i64 0, .string ⟨#[]⟩, .int .i64 ep, .slice A N cap] := by rw [hN]; exact kX0
  have fz0 : ∀ V, Ext w V → V.cell? ⟨X, 0, none⟩ = some (.int .i64 id) := fun V h => (kX.stay h).cell 0
  have fz1 : ∀ V, Ext w V → V.cell? ⟨X, 1, none⟩ = some (.int .i64 n) := fun V h => (kX.stay h).cell 1
  have fz2 : ∀ V, Ext w V → V.cell? ⟨X, 2, none⟩ = some (.int .i64 seq) := fun V h => (kX.stay h).cell 2
  have fz3 : ∀ V, Ext w V → V.cell? ⟨X, 3, none⟩ = some (.int .i64 ak) := fun V h => (kX.stay h).cell 3
  have fz4 : ∀ V, Ext w V → V.cell? ⟨X, 4, none⟩ = some (.int .i64 0) := fun V h => (kX.stay h).cell 4
  have fz5 : ∀ V, Ext w V → V.cell? ⟨X, 5, none⟩ = some (.int .i64 0) := fun V h => (kX.stay h).cell 5
  have fz6 : ∀ V, Ext w V → V.cell? ⟨X, 6, none⟩ = some (.int .i64 0) := fun V h => (kX.stay h).cell 6
  have fz7 : ∀ V, Ext w V → V.cell? ⟨X, 7, none⟩ = some (.int .i64 0) := fun V h => (kX.stay h).cell 7
  have fz8 : ∀ V, Ext w V → V.cell? ⟨X, 8, none⟩ = some (.int .i64 0) := fun V h => (kX.stay h).cell 8
  have fz9 : ∀ V, Ext w V → V.cell? ⟨X, 9, none⟩ = some (.int .i64 0) := fun V h => (kX.stay h).cell 9
  have fz10 : ∀ V, Ext w V → V.cell? ⟨X, 10, none⟩ = some (.string ⟨#[]⟩) := fun V h => (kX.stay h).cell 10
  have fz11 : ∀ V, Ext w V → V.cell? ⟨X, 11, none⟩ = some (.int .i64 ep) := fun V h => (kX.stay h).cell 11
  have fz12 : ∀ V, Ext w V → V.cell? ⟨X, 12, none⟩ = some (.slice A N cap) := fun V h => (kX.stay h).cell 12
  have E0 : Hid (Ext w w) := Ext.refl _
  clear kX kX0 hk hN HXA hbX hbw 
  go_enter Try.func27, Try.ntmps27
  go_wp2_with fail
  refine ext_begin (by kernel_rfl) ?_
  have E0d := Lib.hid (Ext.drewR E0.out)
  refine ext_take (i := 0) (v := ?_) rfl (by kernel_rfl) (by kernel_rfl) (by kernel_rfl) (fun _ _ _ h => h) (by rfl) ?_ ?_
  rotate_left
  · intro W hW; have hW0 := Ext.trans E0d.out hW; clear hW; go_simp <;> with_reducible rfl
  try simp only [Act.put, List.setIfInBounds_toArray, List.set_cons_zero, List.set_cons_succ]
  refine ext_take (i := 1) (v := ?_) rfl (by kernel_rfl) (by kernel_rfl) (by kernel_rfl) (fun _ _ _ h => h) (by rfl) ?_ ?_
  rotate_left
  · intro W hW; have hW0 := Ext.trans E0d.out hW; clear hW; go_simp <;> with_reducible rfl
  try simp only [Act.put, List.setIfInBounds_toArray, List.set_cons_zero, List.set_cons_succ]
  refine ext_take (i := 2) (v := ?_) rfl (by kernel_rfl) (by kernel_rfl) (by kernel_rfl) (fun _ _ _ h => h) (by rfl) ?_ ?_
  rotate_left
  · intro W hW; have hW0 := Ext.trans E0d.out hW; clear hW; go_simp <;> with_reducible rfl
  try simp only [Act.put, List.setIfInBounds_toArray, List.set_cons_zero, List.set_cons_succ]
  refine ext_take (i := 3) (v := ?_) rfl (by kernel_rfl) (by kernel_rfl) (by kernel_rfl) (fun _ _ _ h => h) (by rfl) ?_ ?_
  rotate_left
  · intro W hW; have hW0 := Ext.trans E0d.out hW; clear hW; go_simp <;> with_reducible rfl
  try simp only [Act.put, List.setIfInBounds_toArray, List.set_cons_zero, List.set_cons_succ]
  refine ext_take (i := 4) (v := ?_) rfl (by kernel_rfl) (by kernel_rfl) (by kernel_rfl) (fun _ _ _ h => h) (by rfl) ?_ ?_
  rotate_left
  · intro W hW; have hW0 := Ext.trans E0d.out hW; clear hW; go_simp <;> with_reducible rfl
  try simp only [Act.put, List.setIfInBounds_toArray, List.set_cons_zero, List.set_cons_succ]
  refine ext_take (i := 5) (v := ?_) rfl (by kernel_rfl) (by kernel_rfl) (by kernel_rfl) (fun _ _ _ h => h) (by rfl) ?_ ?_
  rotate_left
  · intro W hW; have hW0 := Ext.trans E0d.out hW; clear hW; go_simp <;> with_reducible rfl
  try simp only [Act.put, List.setIfInBounds_toArray, List.set_cons_zero, List.set_cons_succ]
  refine ext_skip (i := 6) rfl (by kernel_rfl) (by kernel_rfl) (by kernel_rfl) (fun _ _ _ h => h) (by rfl) ?_
  try simp only [Act.put, List.setIfInBounds_toArray, List.set_cons_zero, List.set_cons_succ]
  refine ext_skip (i := 7) rfl (by kernel_rfl) (by kernel_rfl) (by kernel_rfl) (fun _ _ _ h => h) (by rfl) ?_
  try simp only [Act.put, List.setIfInBounds_toArray, List.set_cons_zero, List.set_cons_succ]
  refine ext_skip (i := 8) rfl (by kernel_rfl) (by kernel_rfl) (by kernel_rfl) (fun _ _ _ h => h) (by rfl) ?_
  try simp only [Act.put, List.setIfInBounds_toArray, List.set_cons_zero, List.set_cons_succ]
  refine ext_skip (i := 9) rfl (by kernel_rfl) (by kernel_rfl) (by kernel_rfl) (fun _ _ _ h => h) (by rfl) ?_
  try simp only [Act.put, List.setIfInBounds_toArray, List.set_cons_zero, List.set_cons_succ]
  refine ext_skip (i := 10) rfl (by kernel_rfl) (by kernel_rfl) (by kernel_rfl) (fun _ _ _ h => h) (by rfl) ?_
  try simp only [Act.put, List.setIfInBounds_toArray, List.set_cons_zero, List.set_cons_succ]
  refine ext_skip (i := 11) rfl (by kernel_rfl) (by kernel_rfl) (by kernel_rfl) (fun _ _ _ h => h) (by rfl) ?_
  try simp only [Act.put, List.setIfInBounds_toArray, List.set_cons_zero, List.set_cons_succ]
  refine ext_skip (i := 12) rfl (by kernel_rfl) (by kernel_rfl) (by kernel_rfl) (fun _ _ _ h => h) (by rfl) ?_
  try simp only [Act.put, List.setIfInBounds_toArray, List.set_cons_zero, List.set_cons_succ]
  refine ext_skip (i := 13) rfl (by kernel_rfl) (by kernel_rfl) (by kernel_rfl) (fun _ _ _ h => h) (by rfl) ?_
  try simp only [Act.put, List.setIfInBounds_toArray, List.set_cons_zero, List.set_cons_succ]
  refine ext_skip (i := 14) rfl (by kernel_rfl) (by kernel_rfl) (by kernel_rfl) (fun _ _ _ h => h) (by rfl) ?_
  try simp only [Act.put, List.setIfInBounds_toArray, List.set_cons_zero, List.set_cons_succ]
  refine ext_skip (i := 15) rfl (by kernel_rfl) (by kernel_rfl) (by kernel_rfl) (fun _ _ _ h => h) (by rfl) ?_
  try simp only [Act.put, List.setIfInBounds_toArray, List.set_cons_zero, List.set_cons_succ]
  refine ext_skip (i := 16) rfl (by kernel_rfl) (by kernel_rfl) (by kernel_rfl) (fun _ _ _ h => h) (by rfl) ?_
  try simp only [Act.put, List.setIfInBounds_toArray, List.set_cons_zero, List.set_cons_succ]
  refine ext_take (i := 17) (v := ?_) rfl (by kernel_rfl) (by kernel_rfl) (by kernel_rfl) (fun _ _ _ h => h) (by rfl) ?_ ?_
  rotate_left
  · intro W hW; have hW0 := Ext.trans E0d.out hW; clear hW; go_simp <;> with_reducible rfl
  try simp only [Act.put, List.setIfInBounds_toArray, List.set_cons_zero, List.set_cons_succ]
  refine wpAnyH_done (by kernel_rfl) ?_ _
  have EX := Lib.hid E0d.out
  clear E0d E0
  go_wp2_with fail
  try go_ret
  exact hD.out _ _ ⟨rfl, EX.out⟩

set_option maxRecDepth 8000 in
set_option maxHeartbeats 8000000 in
theorem xtick_o (base X : Nat) (id n seq ep : Int) (ns : List Int) (c s k i m : Int) (d : ByteArray) (ak tr : Int) (now : Int) (w : World) (H : XAt w X ⟨id, n, seq, ep, ns, some ⟨c, s, k, i, m, d, ak, tr⟩⟩) (hbX : base ≤ X) (hbw : base ≤ w.heap.size) (hd : dueB now ak tr = false) (h1 : 1 ≤ tr) (h2 : tr ≤ 1000000) (h3 : now ≤ 9223372036854775807) (h4 : ak ≤ 9223372036854775807) :
    Calls Try.prog 27 #[.pointer (some ⟨X, 0, none⟩), .int .i64 now] w fun e w' => e = .returned (.tuple #[.int .i64 (-1), .bool false]) ∧ Ext w w' := by
  refine hide_post fun D hD => ?_
  have HXA := Lib.hid H
  have HBX : Hid (base ≤ X ∧ base ≤ w.heap.size) := ⟨hbX, hbw⟩
  obtain ⟨A, cap, hk, kX0⟩ := H
  obtain ⟨N, hN⟩ : ∃ N, N = ns.length := ⟨_, rfl⟩
  have kX : Blk w X 61 #[.int .i64 id, .int .i64 n, .int .i64 seq, .int .i64 ak, .int .i64 tr, .int .i64 c, .int .i64 s, .int .i64 k, .int .i64 i, .int .i64 m, .string d, .int .i64 ep, .slice A N cap] := by rw [hN]; exact kX0
  have fz0 : ∀ V, Ext w V → V.cell? ⟨X, 0, none⟩ = some (.int .i64 id) := fun V h => (kX.stay h).cell 0
  have fz1 : ∀ V, Ext w V → V.cell? ⟨X, 1, none⟩ = some (.int .i64 n) := fun V h => (kX.stay h).cell 1
  have fz2 : ∀ V, Ext w V → V.cell? ⟨X, 2, none⟩ = some (.int .i64 seq) := fun V h => (kX.stay h).cell 2
  have fz3 : ∀ V, Ext w V → V.cell? ⟨X, 3, none⟩ = some (.int .i64 ak) := fun V h => (kX.stay h).cell 3
  have fz4 : ∀ V, Ext w V → V.cell? ⟨X, 4, none⟩ = some (.int .i64 tr) := fun V h => (kX.stay h).cell 4
  have fz5 : ∀ V, Ext w V → V.cell? ⟨X, 5, none⟩ = some (.int .i64 c) := fun V h => (kX.stay h).cell 5
  have fz6 : ∀ V, Ext w V → V.cell? ⟨X, 6, none⟩ = some (.int .i64 s) := fun V h => (kX.stay h).cell 6
  have fz7 : ∀ V, Ext w V → V.cell? ⟨X, 7, none⟩ = some (.int .i64 k) := fun V h => (kX.stay h).cell 7
  have fz8 : ∀ V, Ext w V → V.cell? ⟨X, 8, none⟩ = some (.int .i64 i) := fun V h => (kX.stay h).cell 8
  have fz9 : ∀ V, Ext w V → V.cell? ⟨X, 9, none⟩ = some (.int .i64 m) := fun V h => (kX.stay h).cell 9
  have fz10 : ∀ V, Ext w V → V.cell? ⟨X, 10, none⟩ = some (.string d) := fun V h => (kX.stay h).cell 10
  have fz11 : ∀ V, Ext w V → V.cell? ⟨X, 11, none⟩ = some (.int .i64 ep) := fun V h => (kX.stay h).cell 11
  have fz12 : ∀ V, Ext w V → V.cell? ⟨X, 12, none⟩ = some (.slice A N cap) := fun V h => (kX.stay h).cell 12
  have CD : Hid (∀ V, Ext w V → Calls Try.prog 46 #[.int .i64 now, .int .i64 ak, .int .i64 tr] V fun e w' => e = .returned (.bool false) ∧ Ext V w') := fun V _ => by
    rw [← hd]
    exact (rdue_any now ak tr V (by omega) (by omega) h3 h4).mono fun e w' ⟨h1, h2⟩ => ⟨h1, h2 ▸ Ext.refl _⟩
  have htz : (tr == 0) = false := by rw [beq_eq_false_iff_ne]; omega
  have E0 : Hid (Ext w w) := Ext.refl _
  clear kX kX0 hk hN HXA hbX hbw hd h1 h2 h3 h4
  go_enter Try.func27, Try.ntmps27
  go_wp2_with fail
  refine ext_begin (by kernel_rfl) ?_
  have E0d := Lib.hid (Ext.drewR E0.out)
  refine ext_take (i := 0) (v := ?_) rfl (by kernel_rfl) (by kernel_rfl) (by kernel_rfl) (fun _ _ _ h => h) (by rfl) ?_ ?_
  rotate_left
  · intro W hW; have hW0 := Ext.trans E0d.out hW; clear hW; go_simp <;> with_reducible rfl
  try simp only [Act.put, List.setIfInBounds_toArray, List.set_cons_zero, List.set_cons_succ]
  refine ext_take (i := 1) (v := ?_) rfl (by kernel_rfl) (by kernel_rfl) (by kernel_rfl) (fun _ _ _ h => h) (by rfl) ?_ ?_
  rotate_left
  · intro W hW; have hW0 := Ext.trans E0d.out hW; clear hW; go_simp <;> with_reducible rfl
  try simp only [Act.put, List.setIfInBounds_toArray, List.set_cons_zero, List.set_cons_succ]
  refine ext_take (i := 2) (v := ?_) rfl (by kernel_rfl) (by kernel_rfl) (by kernel_rfl) (fun _ _ _ h => h) (by rfl) ?_ ?_
  rotate_left
  · intro W hW; have hW0 := Ext.trans E0d.out hW; clear hW; go_simp <;> with_reducible rfl
  try simp only [Act.put, List.setIfInBounds_toArray, List.set_cons_zero, List.set_cons_succ]
  refine ext_take (i := 3) (v := ?_) rfl (by kernel_rfl) (by kernel_rfl) (by kernel_rfl) (fun _ _ _ h => h) (by rfl) ?_ ?_
  rotate_left
  · intro W hW; have hW0 := Ext.trans E0d.out hW; clear hW; go_simp <;> with_reducible rfl
  try simp only [Act.put, List.setIfInBounds_toArray, List.set_cons_zero, List.set_cons_succ]
  refine ext_take (i := 4) (v := .bool false) rfl (by kernel_rfl) (by kernel_rfl) (by kernel_rfl) (fun _ _ _ h => h) (by rfl) ?_ ?_
  · intro W hW; have hW0 := Ext.trans E0d.out hW; clear hW; go_simp; all_goals (first | done | (rw [htz]; done) | (simp [htz]; done))
  try simp only [Act.put, List.setIfInBounds_toArray, List.set_cons_zero, List.set_cons_succ]
  refine ext_take (i := 5) (v := ?_) rfl (by kernel_rfl) (by kernel_rfl) (by kernel_rfl) (fun _ _ _ h => h) (by rfl) ?_ ?_
  rotate_left
  · intro W hW; have hW0 := Ext.trans E0d.out hW; clear hW; go_simp <;> with_reducible rfl
  try simp only [Act.put, List.setIfInBounds_toArray, List.set_cons_zero, List.set_cons_succ]
  refine ext_take (i := 6) (v := ?_) rfl (by kernel_rfl) (by kernel_rfl) (by kernel_rfl) (fun _ _ _ h => h) (by rfl) ?_ ?_
  rotate_left
  · intro W hW; have hW0 := Ext.trans E0d.out hW; clear hW; go_simp <;> with_reducible rfl
  try simp only [Act.put, List.setIfInBounds_toArray, List.set_cons_zero, List.set_cons_succ]
  refine ext_take (i := 7) (v := ?_) rfl (by kernel_rfl) (by kernel_rfl) (by kernel_rfl) (fun _ _ _ h => h) (by rfl) ?_ ?_
  rotate_left
  · intro W hW; have hW0 := Ext.trans E0d.out hW; clear hW; go_simp <;> with_reducible rfl
  try simp only [Act.put, List.setIfInBounds_toArray, List.set_cons_zero, List.set_cons_succ]
  refine ext_take (i := 8) (v := ?_) rfl (by kernel_rfl) (by kernel_rfl) (by kernel_rfl) (fun _ _ _ h => h) (by rfl) ?_ ?_
  rotate_left
  · intro W hW; have hW0 := Ext.trans E0d.out hW; clear hW; go_simp <;> with_reducible rfl
  try simp only [Act.put, List.setIfInBounds_toArray, List.set_cons_zero, List.set_cons_succ]
  refine ext_take (i := 9) (v := ?_) rfl (by kernel_rfl) (by kernel_rfl) (by kernel_rfl) (fun _ _ _ h => h) (by rfl) ?_ ?_
  rotate_left
  · intro W hW; have hW0 := Ext.trans E0d.out hW; clear hW; go_simp <;> with_reducible rfl
  try simp only [Act.put, List.setIfInBounds_toArray, List.set_cons_zero, List.set_cons_succ]
  refine ext_take (i := 10) (v := ?_) rfl (by kernel_rfl) (by kernel_rfl) (by kernel_rfl) (fun _ _ _ h => h) (by rfl) ?_ ?_
  rotate_left
  · intro W hW; have hW0 := Ext.trans E0d.out hW; clear hW; go_simp <;> with_reducible rfl
  try simp only [Act.put, List.setIfInBounds_toArray, List.set_cons_zero, List.set_cons_succ]
  refine ext_take (i := 11) (v := ?_) rfl (by kernel_rfl) (by kernel_rfl) (by kernel_rfl) (fun _ _ _ h => h) (by rfl) ?_ ?_
  rotate_left
  · intro W hW; have hW0 := Ext.trans E0d.out hW; clear hW; go_simp <;> with_reducible rfl
  try simp only [Act.put, List.setIfInBounds_toArray, List.set_cons_zero, List.set_cons_succ]
  refine ext_take (i := 12) (v := ?_) rfl (by kernel_rfl) (by kernel_rfl) (by kernel_rfl) (fun _ _ _ h => h) (by rfl) ?_ ?_
  rotate_left
  · intro W hW; have hW0 := Ext.trans E0d.out hW; clear hW; go_simp <;> with_reducible rfl
  try simp only [Act.put, List.setIfInBounds_toArray, List.set_cons_zero, List.set_cons_succ]
  refine ext_take (i := 13) (v := ?_) rfl (by kernel_rfl) (by kernel_rfl) (by kernel_rfl) (fun _ _ _ h => h) (by rfl) ?_ ?_
  rotate_left
  · intro W hW; have hW0 := Ext.trans E0d.out hW; clear hW; go_simp <;> with_reducible rfl
  try simp only [Act.put, List.setIfInBounds_toArray, List.set_cons_zero, List.set_cons_succ]
  refine ext_take (i := 14) (v := ?_) rfl (by kernel_rfl) (by kernel_rfl) (by kernel_rfl) (fun _ _ _ h => h) (by rfl) ?_ ?_
  rotate_left
  · intro W hW; have hW0 := Ext.trans E0d.out hW; clear hW; go_simp <;> with_reducible rfl
  try simp only [Act.put, List.setIfInBounds_toArray, List.set_cons_zero, List.set_cons_succ]
  refine ext_call (i := 15) rfl (by kernel_rfl) (by rfl) (fun K' hK => ?_)
  go_simp
  (go_at_call 46; (with_reducible refine (CD.out _ E0d.out).mono ?_); rintro e w3 ⟨rfl, hx⟩; refine hK _ _ hx ?_; clear hK)
  have Ew3 := Lib.hid (Ext.trans E0d.out hx)
  clear hx
  try simp only [Act.put, List.setIfInBounds_toArray, List.set_cons_zero, List.set_cons_succ]
  refine ext_take (i := 16) (v := ?_) rfl (by kernel_rfl) (by kernel_rfl) (by kernel_rfl) (fun _ _ _ h => h) (by rfl) ?_ ?_
  rotate_left
  · intro W hW; have hW0 := Ext.trans Ew3.out hW; clear hW; go_simp <;> with_reducible rfl
  try simp only [Act.put, List.setIfInBounds_toArray, List.set_cons_zero, List.set_cons_succ]
  refine ext_take (i := 17) (v := ?_) rfl (by kernel_rfl) (by kernel_rfl) (by kernel_rfl) (fun _ _ _ h => h) (by rfl) ?_ ?_
  rotate_left
  · intro W hW; have hW0 := Ext.trans Ew3.out hW; clear hW; go_simp <;> with_reducible rfl
  try simp only [Act.put, List.setIfInBounds_toArray, List.set_cons_zero, List.set_cons_succ]
  refine wpAnyH_done (by kernel_rfl) ?_ _
  have EX := Lib.hid Ew3.out
  clear Ew3 E0d E0
  go_wp2_with fail
  try go_ret
  exact hD.out _ _ ⟨rfl, EX.out⟩

set_option maxRecDepth 8000 in
set_option maxHeartbeats 8000000 in
theorem xtick_y (base X : Nat) (id n seq ep : Int) (ns : List Int) (c s k i m : Int) (d : ByteArray) (ak tr : Int) (now t1 : Int) (w : World) (H : XAt w X ⟨id, n, seq, ep, ns, some ⟨c, s, k, i, m, d, ak, tr⟩⟩) (hbX : base ≤ X) (hbw : base ≤ w.heap.size) (hd : dueB now ak tr = true) (hns : ns.length ≤ 1000) (hn : 1 ≤ n) (ht1 : t1 = tr + 1) (h1 : 1 ≤ tr) (h2 : tr ≤ 1000000) (h3 : now ≤ 9223372036854775807) (h4 : ak ≤ 9223372036854775807) :
    Calls Try.prog 27 #[.pointer (some ⟨X, 0, none⟩), .int .i64 now] w fun e w' => e = .returned (.tuple #[.int .i64 (targetF ns n t1 (decide (k = 1 ∨ k = 2 ∨ k = 3))), .bool true]) ∧ XAt w' X ⟨id, n, seq, ep, ns, some ⟨c, s, k, i, m, d, now, t1⟩⟩ ∧ Kx base w w' := by
  refine hide_post fun D hD => ?_
  have HXA := Lib.hid H
  have HBX : Hid (base ≤ X ∧ base ≤ w.heap.size) := ⟨hbX, hbw⟩
  obtain ⟨A, cap, hk, kX0⟩ := H
  obtain ⟨N, hN⟩ : ∃ N, N = ns.length := ⟨_, rfl⟩
  have kX : Blk w X 61 #[.int .i64 id, .int .i64 n, .int .i64 seq, .int .i64 ak, .int .i64 tr, .int .i64 c, .int .i64 s, .int .i64 k, .int .i64 i, .int .i64 m, .string d, .int .i64 ep, .slice A N cap] := by rw [hN]; exact kX0
  have fz0 : ∀ V, Ext w V → V.cell? ⟨X, 0, none⟩ = some (.int .i64 id) := fun V h => (kX.stay h).cell 0
  have fz1 : ∀ V, Ext w V → V.cell? ⟨X, 1, none⟩ = some (.int .i64 n) := fun V h => (kX.stay h).cell 1
  have fz2 : ∀ V, Ext w V → V.cell? ⟨X, 2, none⟩ = some (.int .i64 seq) := fun V h => (kX.stay h).cell 2
  have fz3 : ∀ V, Ext w V → V.cell? ⟨X, 3, none⟩ = some (.int .i64 ak) := fun V h => (kX.stay h).cell 3
  have fz4 : ∀ V, Ext w V → V.cell? ⟨X, 4, none⟩ = some (.int .i64 tr) := fun V h => (kX.stay h).cell 4
  have fz5 : ∀ V, Ext w V → V.cell? ⟨X, 5, none⟩ = some (.int .i64 c) := fun V h => (kX.stay h).cell 5
  have fz6 : ∀ V, Ext w V → V.cell? ⟨X, 6, none⟩ = some (.int .i64 s) := fun V h => (kX.stay h).cell 6
  have fz7 : ∀ V, Ext w V → V.cell? ⟨X, 7, none⟩ = some (.int .i64 k) := fun V h => (kX.stay h).cell 7
  have fz8 : ∀ V, Ext w V → V.cell? ⟨X, 8, none⟩ = some (.int .i64 i) := fun V h => (kX.stay h).cell 8
  have fz9 : ∀ V, Ext w V → V.cell? ⟨X, 9, none⟩ = some (.int .i64 m) := fun V h => (kX.stay h).cell 9
  have fz10 : ∀ V, Ext w V → V.cell? ⟨X, 10, none⟩ = some (.string d) := fun V h => (kX.stay h).cell 10
  have fz11 : ∀ V, Ext w V → V.cell? ⟨X, 11, none⟩ = some (.int .i64 ep) := fun V h => (kX.stay h).cell 11
  have fz12 : ∀ V, Ext w V → V.cell? ⟨X, 12, none⟩ = some (.slice A N cap) := fun V h => (kX.stay h).cell 12
  have CD : Hid (∀ V, Ext w V → Calls Try.prog 46 #[.int .i64 now, .int .i64 ak, .int .i64 tr] V fun e w' => e = .returned (.bool true) ∧ Ext V w') := fun V _ => by
    rw [← hd]
    exact (rdue_any now ak tr V (by omega) (by omega) h3 h4).mono fun e w' ⟨h1, h2⟩ => ⟨h1, h2 ▸ Ext.refl _⟩
  have htz : (tr == 0) = false := by rw [beq_eq_false_iff_ne]; omega
  have hwt : wrap64 (tr + 1) = t1 := by rw [ht1]; unfold wrap64; omega
  have HTR : Hid (∀ V, KnAt V A ns → Calls Try.prog 43 #[.agg #[.int .i64 ep, .slice A N cap], .int .i64 n, .int .i64 t1, .bool (decide (k = 1 ∨ k = 2 ∨ k = 3))] V fun e w' => e = .returned (.int .i64 (targetF ns n t1 (decide (k = 1 ∨ k = 2 ∨ k = 3)))) ∧ Ext V w') := fun V hV => by
    rw [hN]
    exact rtarget_any ep A cap ns n t1 (decide (k = 1 ∨ k = 2 ∨ k = 3)) V hn (by omega) hns hV.sl
  have CW : Hid (∀ V, Calls Try.prog 44 #[.agg #[.int .i64 c, .int .i64 s, .int .i64 k, .int .i64 i, .int .i64 m, .string d]] V fun e w' => e = .returned (.bool (decide (k = 1 ∨ k = 2 ∨ k = 3))) ∧ Ext V w') := fun V => refWrites_any c s k i m d V
  have HKX := Lib.hid kX
  have HK := Lib.hid hk
  have HN := Lib.hid hN
  have E0 : Hid (Ext w w) := Ext.refl _
  clear kX kX0 hk hN HXA hbX hbw hd h1 h2 h3 h4 hns hn ht1
  generalize targetF ns n t1 (decide (k = 1 ∨ k = 2 ∨ k = 3)) = r at *
  generalize (decide (k = 1 ∨ k = 2 ∨ k = 3)) = bw at *
  go_enter Try.func27, Try.ntmps27
  go_wp2_with fail
  refine ext_begin (by kernel_rfl) ?_
  have E0d := Lib.hid (Ext.drewR E0.out)
  refine ext_take (i := 0) (v := ?_) rfl (by kernel_rfl) (by kernel_rfl) (by kernel_rfl) (fun _ _ _ h => h) (by rfl) ?_ ?_
  rotate_left
  · intro W hW; have hW0 := Ext.trans E0d.out hW; clear hW; go_simp <;> with_reducible rfl
  try simp only [Act.put, List.setIfInBounds_toArray, List.set_cons_zero, List.set_cons_succ]
  refine ext_take (i := 1) (v := ?_) rfl (by kernel_rfl) (by kernel_rfl) (by kernel_rfl) (fun _ _ _ h => h) (by rfl) ?_ ?_
  rotate_left
  · intro W hW; have hW0 := Ext.trans E0d.out hW; clear hW; go_simp <;> with_reducible rfl
  try simp only [Act.put, List.setIfInBounds_toArray, List.set_cons_zero, List.set_cons_succ]
  refine ext_take (i := 2) (v := ?_) rfl (by kernel_rfl) (by kernel_rfl) (by kernel_rfl) (fun _ _ _ h => h) (by rfl) ?_ ?_
  rotate_left
  · intro W hW; have hW0 := Ext.trans E0d.out hW; clear hW; go_simp <;> with_reducible rfl
  try simp only [Act.put, List.setIfInBounds_toArray, List.set_cons_zero, List.set_cons_succ]
  refine ext_take (i := 3) (v := ?_) rfl (by kernel_rfl) (by kernel_rfl) (by kernel_rfl) (fun _ _ _ h => h) (by rfl) ?_ ?_
  rotate_left
  · intro W hW; have hW0 := Ext.trans E0d.out hW; clear hW; go_simp <;> with_reducible rfl
  try simp only [Act.put, List.setIfInBounds_toArray, List.set_cons_zero, List.set_cons_succ]
  refine ext_take (i := 4) (v := .bool false) rfl (by kernel_rfl) (by kernel_rfl) (by kernel_rfl) (fun _ _ _ h => h) (by rfl) ?_ ?_
  · intro W hW; have hW0 := Ext.trans E0d.out hW; clear hW; go_simp; all_goals (first | done | (rw [htz]; done) | (simp [htz]; done))
  try simp only [Act.put, List.setIfInBounds_toArray, List.set_cons_zero, List.set_cons_succ]
  refine ext_take (i := 5) (v := ?_) rfl (by kernel_rfl) (by kernel_rfl) (by kernel_rfl) (fun _ _ _ h => h) (by rfl) ?_ ?_
  rotate_left
  · intro W hW; have hW0 := Ext.trans E0d.out hW; clear hW; go_simp <;> with_reducible rfl
  try simp only [Act.put, List.setIfInBounds_toArray, List.set_cons_zero, List.set_cons_succ]
  refine ext_take (i := 6) (v := ?_) rfl (by kernel_rfl) (by kernel_rfl) (by kernel_rfl) (fun _ _ _ h => h) (by rfl) ?_ ?_
  rotate_left
  · intro W hW; have hW0 := Ext.trans E0d.out hW; clear hW; go_simp <;> with_reducible rfl
  try simp only [Act.put, List.setIfInBounds_toArray, List.set_cons_zero, List.set_cons_succ]
  refine ext_take (i := 7) (v := ?_) rfl (by kernel_rfl) (by kernel_rfl) (by kernel_rfl) (fun _ _ _ h => h) (by rfl) ?_ ?_
  rotate_left
  · intro W hW; have hW0 := Ext.trans E0d.out hW; clear hW; go_simp <;> with_reducible rfl
  try simp only [Act.put, List.setIfInBounds_toArray, List.set_cons_zero, List.set_cons_succ]
  refine ext_take (i := 8) (v := ?_) rfl (by kernel_rfl) (by kernel_rfl) (by kernel_rfl) (fun _ _ _ h => h) (by rfl) ?_ ?_
  rotate_left
  · intro W hW; have hW0 := Ext.trans E0d.out hW; clear hW; go_simp <;> with_reducible rfl
  try simp only [Act.put, List.setIfInBounds_toArray, List.set_cons_zero, List.set_cons_succ]
  refine ext_take (i := 9) (v := ?_) rfl (by kernel_rfl) (by kernel_rfl) (by kernel_rfl) (fun _ _ _ h => h) (by rfl) ?_ ?_
  rotate_left
  · intro W hW; have hW0 := Ext.trans E0d.out hW; clear hW; go_simp <;> with_reducible rfl
  try simp only [Act.put, List.setIfInBounds_toArray, List.set_cons_zero, List.set_cons_succ]
  refine ext_take (i := 10) (v := ?_) rfl (by kernel_rfl) (by kernel_rfl) (by kernel_rfl) (fun _ _ _ h => h) (by rfl) ?_ ?_
  rotate_left
  · intro W hW; have hW0 := Ext.trans E0d.out hW; clear hW; go_simp <;> with_reducible rfl
  try simp only [Act.put, List.setIfInBounds_toArray, List.set_cons_zero, List.set_cons_succ]
  refine ext_take (i := 11) (v := ?_) rfl (by kernel_rfl) (by kernel_rfl) (by kernel_rfl) (fun _ _ _ h => h) (by rfl) ?_ ?_
  rotate_left
  · intro W hW; have hW0 := Ext.trans E0d.out hW; clear hW; go_simp <;> with_reducible rfl
  try simp only [Act.put, List.setIfInBounds_toArray, List.set_cons_zero, List.set_cons_succ]
  refine ext_take (i := 12) (v := ?_) rfl (by kernel_rfl) (by kernel_rfl) (by kernel_rfl) (fun _ _ _ h => h) (by rfl) ?_ ?_
  rotate_left
  · intro W hW; have hW0 := Ext.trans E0d.out hW; clear hW; go_simp <;> with_reducible rfl
  try simp only [Act.put, List.setIfInBounds_toArray, List.set_cons_zero, List.set_cons_succ]
  refine ext_take (i := 13) (v := ?_) rfl (by kernel_rfl) (by kernel_rfl) (by kernel_rfl) (fun _ _ _ h => h) (by rfl) ?_ ?_
  rotate_left
  · intro W hW; have hW0 := Ext.trans E0d.out hW; clear hW; go_simp <;> with_reducible rfl
  try simp only [Act.put, List.setIfInBounds_toArray, List.set_cons_zero, List.set_cons_succ]
  refine ext_take (i := 14) (v := ?_) rfl (by kernel_rfl) (by kernel_rfl) (by kernel_rfl) (fun _ _ _ h => h) (by rfl) ?_ ?_
  rotate_left
  · intro W hW; have hW0 := Ext.trans E0d.out hW; clear hW; go_simp <;> with_reducible rfl
  try simp only [Act.put, List.setIfInBounds_toArray, List.set_cons_zero, List.set_cons_succ]
  refine ext_call (i := 15) rfl (by kernel_rfl) (by rfl) (fun K' hK => ?_)
  go_simp
  (go_at_call 46; (with_reducible refine (CD.out _ E0d.out).mono ?_); rintro e w3 ⟨rfl, hx⟩; refine hK _ _ hx ?_; clear hK)
  have Ew3 := Lib.hid (Ext.trans E0d.out hx)
  clear hx
  try simp only [Act.put, List.setIfInBounds_toArray, List.set_cons_zero, List.set_cons_succ]
  refine ext_take (i := 16) (v := ?_) rfl (by kernel_rfl) (by kernel_rfl) (by kernel_rfl) (fun _ _ _ h => h) (by rfl) ?_ ?_
  rotate_left
  · intro W hW; have hW0 := Ext.trans Ew3.out hW; clear hW; go_simp <;> with_reducible rfl
  try simp only [Act.put, List.setIfInBounds_toArray, List.set_cons_zero, List.set_cons_succ]
  refine ext_take (i := 17) (v := ?_) rfl (by kernel_rfl) (by kernel_rfl) (by kernel_rfl) (fun _ _ _ h => h) (by rfl) ?_ ?_
  rotate_left
  · intro W hW; have hW0 := Ext.trans Ew3.out hW; clear hW; go_simp <;> with_reducible rfl
  try simp only [Act.put, List.setIfInBounds_toArray, List.set_cons_zero, List.set_cons_succ]
  refine wpAnyH_done (by kernel_rfl) ?_ _
  have EX := Lib.hid Ew3.out
  clear Ew3 E0d E0
  have kx3 := HKX.out.stay EX.out
  have g4 := kx3.cell 4
  have gf4 := kx3.frozen 4
  simp at g4
  have kx4 := kx3.set 4 (.int .i64 t1)
  have gf3 := kx4.frozen 3
  have g3 := kx4.cell 3
  simp at g3
  obtain ⟨W2, hW2⟩ : ∃ W2, W2 = ((w3.setCell ⟨X, 4, none⟩ (.int .i64 t1)).setCell ⟨X, 3, none⟩ (.int .i64 now)) := ⟨_, rfl⟩
  have kx5 : Blk W2 X 61 #[.int .i64 id, .int .i64 n, .int .i64 seq, .int .i64 now, .int .i64 t1, .int .i64 c, .int .i64 s, .int .i64 k, .int .i64 i, .int .i64 m, .string d, .int .i64 ep, .slice A N cap] := by rw [hW2]; exact kx4.set 3 _
  have hkx : Kx base w W2 := by rw [hW2]; exact ((Kx.ext EX.out HBX.out.2).trans (Kx.set kx3 HBX.out.1 4 _)).trans (Kx.set kx4 HBX.out.1 3 _)
  have hk2 := HK.out.kx hkx
  have HE : Hid (∀ V, Ext W2 V → D (.returned (.tuple #[.int .i64 r, .bool true])) V) := fun V hV => hD.out _ _ ⟨rfl, ⟨A, cap, hk2.stay hV, by rw [← HN.out]; exact kx5.stay hV⟩, hkx.trans (Kx.ext hV (Nat.le_trans HBX.out.2 hkx.1.size))⟩
  have CT : Hid (∀ V, Ext W2 V → Calls Try.prog 43 #[.agg #[.int .i64 ep, .slice A N cap], .int .i64 n, .int .i64 t1, .bool bw] V fun e w' => e = .returned (.int .i64 r) ∧ Ext V w') := fun V hV => HTR.out V (hk2.stay hV)
  clear fz0 fz1 fz2 fz3 fz4 fz5 fz6 fz7 fz8 fz9 fz10 fz11 fz12
  have fy0 : ∀ V, Ext W2 V → V.cell? ⟨X, 0, none⟩ = some (.int .i64 id) := fun V h => (kx5.stay h).cell 0
  have fy1 : ∀ V, Ext W2 V → V.cell? ⟨X, 1, none⟩ = some (.int .i64 n) := fun V h => (kx5.stay h).cell 1
  have fy2 : ∀ V, Ext W2 V → V.cell? ⟨X, 2, none⟩ = some (.int .i64 seq) := fun V h => (kx5.stay h).cell 2
  have fy3 : ∀ V, Ext W2 V → V.cell? ⟨X, 3, none⟩ = some (.int .i64 now) := fun V h => (kx5.stay h).cell 3
  have fy4 : ∀ V, Ext W2 V → V.cell? ⟨X, 4, none⟩ = some (.int .i64 t1) := fun V h => (kx5.stay h).cell 4
  have fy5 : ∀ V, Ext W2 V → V.cell? ⟨X, 5, none⟩ = some (.int .i64 c) := fun V h => (kx5.stay h).cell 5
  have fy6 : ∀ V, Ext W2 V → V.cell? ⟨X, 6, none⟩ = some (.int .i64 s) := fun V h => (kx5.stay h).cell 6
  have fy7 : ∀ V, Ext W2 V → V.cell? ⟨X, 7, none⟩ = some (.int .i64 k) := fun V h => (kx5.stay h).cell 7
  have fy8 : ∀ V, Ext W2 V → V.cell? ⟨X, 8, none⟩ = some (.int .i64 i) := fun V h => (kx5.stay h).cell 8
  have fy9 : ∀ V, Ext W2 V → V.cell? ⟨X, 9, none⟩ = some (.int .i64 m) := fun V h => (kx5.stay h).cell 9
  have fy10 : ∀ V, Ext W2 V → V.cell? ⟨X, 10, none⟩ = some (.string d) := fun V h => (kx5.stay h).cell 10
  have fy11 : ∀ V, Ext W2 V → V.cell? ⟨X, 11, none⟩ = some (.int .i64 ep) := fun V h => (kx5.stay h).cell 11
  have fy12 : ∀ V, Ext W2 V → V.cell? ⟨X, 12, none⟩ = some (.slice A N cap) := fun V h => (kx5.stay h).cell 12
  have HW2 := Lib.hid hW2
  have E2 : Hid (Ext W2 W2) := Ext.refl _
  clear kx3 kx4 kx5 hkx hk2 hW2 hD
  go_wp2_with fail
  rw [← HW2.out]
  refine ext_begin (by kernel_rfl) ?_
  have E2d := Lib.hid (Ext.drewR E2.out)
  refine ext_take (i := 0) (v := ?_) rfl (by kernel_rfl) (by kernel_rfl) (by kernel_rfl) (fun _ _ _ h => h) (by rfl) ?_ ?_
  rotate_left
  · intro W hW; have hW0 := Ext.trans E2d.out hW; clear hW; go_simp <;> with_reducible rfl
  try simp only [Act.put, List.setIfInBounds_toArray, List.set_cons_zero, List.set_cons_succ]
  refine ext_take (i := 1) (v := ?_) rfl (by kernel_rfl) (by kernel_rfl) (by kernel_rfl) (fun _ _ _ h => h) (by rfl) ?_ ?_
  rotate_left
  · intro W hW; have hW0 := Ext.trans E2d.out hW; clear hW; go_simp <;> with_reducible rfl
  try simp only [Act.put, List.setIfInBounds_toArray, List.set_cons_zero, List.set_cons_succ]
  refine ext_take (i := 2) (v := ?_) rfl (by kernel_rfl) (by kernel_rfl) (by kernel_rfl) (fun _ _ _ h => h) (by rfl) ?_ ?_
  rotate_left
  · intro W hW; have hW0 := Ext.trans E2d.out hW; clear hW; go_simp <;> with_reducible rfl
  try simp only [Act.put, List.setIfInBounds_toArray, List.set_cons_zero, List.set_cons_succ]
  refine ext_take (i := 3) (v := ?_) rfl (by kernel_rfl) (by kernel_rfl) (by kernel_rfl) (fun _ _ _ h => h) (by rfl) ?_ ?_
  rotate_left
  · intro W hW; have hW0 := Ext.trans E2d.out hW; clear hW; go_simp <;> with_reducible rfl
  try simp only [Act.put, List.setIfInBounds_toArray, List.set_cons_zero, List.set_cons_succ]
  refine ext_take (i := 4) (v := ?_) rfl (by kernel_rfl) (by kernel_rfl) (by kernel_rfl) (fun _ _ _ h => h) (by rfl) ?_ ?_
  rotate_left
  · intro W hW; have hW0 := Ext.trans E2d.out hW; clear hW; go_simp <;> with_reducible rfl
  try simp only [Act.put, List.setIfInBounds_toArray, List.set_cons_zero, List.set_cons_succ]
  refine ext_take (i := 5) (v := ?_) rfl (by kernel_rfl) (by kernel_rfl) (by kernel_rfl) (fun _ _ _ h => h) (by rfl) ?_ ?_
  rotate_left
  · intro W hW; have hW0 := Ext.trans E2d.out hW; clear hW; go_simp <;> with_reducible rfl
  try simp only [Act.put, List.setIfInBounds_toArray, List.set_cons_zero, List.set_cons_succ]
  refine ext_take (i := 6) (v := ?_) rfl (by kernel_rfl) (by kernel_rfl) (by kernel_rfl) (fun _ _ _ h => h) (by rfl) ?_ ?_
  rotate_left
  · intro W hW; have hW0 := Ext.trans E2d.out hW; clear hW; go_simp <;> with_reducible rfl
  try simp only [Act.put, List.setIfInBounds_toArray, List.set_cons_zero, List.set_cons_succ]
  refine ext_take (i := 7) (v := ?_) rfl (by kernel_rfl) (by kernel_rfl) (by kernel_rfl) (fun _ _ _ h => h) (by rfl) ?_ ?_
  rotate_left
  · intro W hW; have hW0 := Ext.trans E2d.out hW; clear hW; go_simp <;> with_reducible rfl
  try simp only [Act.put, List.setIfInBounds_toArray, List.set_cons_zero, List.set_cons_succ]
  refine ext_take (i := 8) (v := ?_) rfl (by kernel_rfl) (by kernel_rfl) (by kernel_rfl) (fun _ _ _ h => h) (by rfl) ?_ ?_
  rotate_left
  · intro W hW; have hW0 := Ext.trans E2d.out hW; clear hW; go_simp <;> with_reducible rfl
  try simp only [Act.put, List.setIfInBounds_toArray, List.set_cons_zero, List.set_cons_succ]
  refine ext_take (i := 9) (v := ?_) rfl (by kernel_rfl) (by kernel_rfl) (by kernel_rfl) (fun _ _ _ h => h) (by rfl) ?_ ?_
  rotate_left
  · intro W hW; have hW0 := Ext.trans E2d.out hW; clear hW; go_simp <;> with_reducible rfl
  try simp only [Act.put, List.setIfInBounds_toArray, List.set_cons_zero, List.set_cons_succ]
  refine ext_take (i := 10) (v := ?_) rfl (by kernel_rfl) (by kernel_rfl) (by kernel_rfl) (fun _ _ _ h => h) (by rfl) ?_ ?_
  rotate_left
  · intro W hW; have hW0 := Ext.trans E2d.out hW; clear hW; go_simp <;> with_reducible rfl
  try simp only [Act.put, List.setIfInBounds_toArray, List.set_cons_zero, List.set_cons_succ]
  refine ext_take (i := 11) (v := ?_) rfl (by kernel_rfl) (by kernel_rfl) (by kernel_rfl) (fun _ _ _ h => h) (by rfl) ?_ ?_
  rotate_left
  · intro W hW; have hW0 := Ext.trans E2d.out hW; clear hW; go_simp <;> with_reducible rfl
  try simp only [Act.put, List.setIfInBounds_toArray, List.set_cons_zero, List.set_cons_succ]
  refine ext_take (i := 12) (v := ?_) rfl (by kernel_rfl) (by kernel_rfl) (by kernel_rfl) (fun _ _ _ h => h) (by rfl) ?_ ?_
  rotate_left
  · intro W hW; have hW0 := Ext.trans E2d.out hW; clear hW; go_simp <;> with_reducible rfl
  try simp only [Act.put, List.setIfInBounds_toArray, List.set_cons_zero, List.set_cons_succ]
  refine ext_take (i := 13) (v := ?_) rfl (by kernel_rfl) (by kernel_rfl) (by kernel_rfl) (fun _ _ _ h => h) (by rfl) ?_ ?_
  rotate_left
  · intro W hW; have hW0 := Ext.trans E2d.out hW; clear hW; go_simp <;> with_reducible rfl
  try simp only [Act.put, List.setIfInBounds_toArray, List.set_cons_zero, List.set_cons_succ]
  refine ext_take (i := 14) (v := ?_) rfl (by kernel_rfl) (by kernel_rfl) (by kernel_rfl) (fun _ _ _ h => h) (by rfl) ?_ ?_
  rotate_left
  · intro W hW; have hW0 := Ext.trans E2d.out hW; clear hW; go_simp <;> with_reducible rfl
  try simp only [Act.put, List.setIfInBounds_toArray, List.set_cons_zero, List.set_cons_succ]
  refine ext_take (i := 15) (v := ?_) rfl (by kernel_rfl) (by kernel_rfl) (by kernel_rfl) (fun _ _ _ h => h) (by rfl) ?_ ?_
  rotate_left
  · intro W hW; have hW0 := Ext.trans E2d.out hW; clear hW; go_simp <;> with_reducible rfl
  try simp only [Act.put, List.setIfInBounds_toArray, List.set_cons_zero, List.set_cons_succ]
  refine ext_call (i := 16) rfl (by kernel_rfl) (by rfl) (fun K' hK => ?_)
  go_simp
  (go_at_call 44; (with_reducible refine (CW.out _).mono ?_); rintro e w5 ⟨rfl, hx⟩; refine hK _ _ hx ?_; clear hK)
  have Ew5 := Lib.hid (Ext.trans E2d.out hx)
  clear hx
  try simp only [Act.put, List.setIfInBounds_toArray, List.set_cons_zero, List.set_cons_succ]
  refine ext_call (i := 17) rfl (by kernel_rfl) (by rfl) (fun K' hK => ?_)
  go_simp
  (go_at_call 43; (with_reducible refine (CT.out _ Ew5.out).mono ?_); rintro e w6 ⟨rfl, hx⟩; refine hK _ _ hx ?_; clear hK)
  have Ew6 := Lib.hid (Ext.trans Ew5.out hx)
  clear hx
  try simp only [Act.put, List.setIfInBounds_toArray, List.set_cons_zero, List.set_cons_succ]
  refine ext_take (i := 18) (v := ?_) rfl (by kernel_rfl) (by kernel_rfl) (by kernel_rfl) (fun _ _ _ h => h) (by rfl) ?_ ?_
  rotate_left
  · intro W hW; have hW0 := Ext.trans Ew6.out hW; clear hW; go_simp <;> with_reducible rfl
  try simp only [Act.put, List.setIfInBounds_toArray, List.set_cons_zero, List.set_cons_succ]
  refine ext_take (i := 19) (v := ?_) rfl (by kernel_rfl) (by kernel_rfl) (by kernel_rfl) (fun _ _ _ h => h) (by rfl) ?_ ?_
  rotate_left
  · intro W hW; have hW0 := Ext.trans Ew6.out hW; clear hW; go_simp <;> with_reducible rfl
  try simp only [Act.put, List.setIfInBounds_toArray, List.set_cons_zero, List.set_cons_succ]
  refine wpAnyH_done (by kernel_rfl) ?_ _
  have EZ := Lib.hid Ew6.out
  clear Ew5 Ew6 E2d E2
  try go_wp2_with fail
  try go_ret
  exact HE.out _ EZ.out

set_option maxRecDepth 8000 in
set_option maxHeartbeats 8000000 in
theorem xanswer_n (base X : Nat) (id n seq ep : Int) (ns : List Int) (x : Int) (w : World) (H : XAt w X ⟨id, n, seq, ep, ns, none⟩) (hbX : base ≤ X) (hbw : base ≤ w.heap.size) :
    Calls Try.prog 31 #[.pointer (some ⟨X, 0, none⟩), .int .i64 x] w fun e w' => e = .returned (.bool false) ∧ Ext w w' := by
  refine hide_post fun D hD => ?_
  have HXA := Lib.hid H
  have HBX : Hid (base ≤ X ∧ base ≤ w.heap.size) := ⟨hbX, hbw⟩
  obtain ⟨A, cap, hk, ak, kX0⟩ := H
  obtain ⟨N, hN⟩ : ∃ N, N = ns.length := ⟨_, rfl⟩
  have kX : Blk w X 61 #[.int .i64 id, .int .i64 n, .int .i64 seq, .int .i64 ak, .int .i64 0, .int .i64 0, .int .i64 0, .int .i64 0, .int .i64 0, .int .i64 0, .string ⟨#[]⟩, .int .i64 ep, .slice A N cap] := by rw [hN]; exact kX0
  have a0 := kX.cell 0
  have a1 := kX.cell 1
  have a2 := kX.cell 2
  have a3 := kX.cell 3
  have a4 := kX.cell 4
  have a5 := kX.cell 5
  have a6 := kX.cell 6
  have a7 := kX.cell 7
  have a8 := kX.cell 8
  have a9 := kX.cell 9
  have a10 := kX.cell 10
  have a11 := kX.cell 11
  have a12 := kX.cell 12
  simp at a0 a1 a2 a3 a4 a5 a6 a7 a8 a9 a10 a11 a12
  clear kX kX0 hk hN HXA hbX hbw 
  go_enter Try.func31, Try.ntmps31
  go_wp2_with fail
  try go_ret
  exact hD.out _ _ ⟨by first | rfl | exact ret_bool (by simp [hx]), by first | exact Ext.refl _ | exact (Ext.refl _).drewR⟩

set_option maxRecDepth 8000 in
set_option maxHeartbeats 8000000 in
theorem xanswer_o (base X : Nat) (id n seq ep : Int) (ns : List Int) (c s k i m : Int) (d : ByteArray) (ak tr : Int) (x : Int) (w : World) (H : XAt w X ⟨id, n, seq, ep, ns, some ⟨c, s, k, i, m, d, ak, tr⟩⟩) (hbX : base ≤ X) (hbw : base ≤ w.heap.size) (hx : ¬ seq = x) (h1 : 1 ≤ tr) :
    Calls Try.prog 31 #[.pointer (some ⟨X, 0, none⟩), .int .i64 x] w fun e w' => e = .returned (.bool false) ∧ Ext w w' := by
  refine hide_post fun D hD => ?_
  have HXA := Lib.hid H
  have HBX : Hid (base ≤ X ∧ base ≤ w.heap.size) := ⟨hbX, hbw⟩
  obtain ⟨A, cap, hk, kX0⟩ := H
  obtain ⟨N, hN⟩ : ∃ N, N = ns.length := ⟨_, rfl⟩
  have kX : Blk w X 61 #[.int .i64 id, .int .i64 n, .int .i64 seq, .int .i64 ak, .int .i64 tr, .int .i64 c, .int .i64 s, .int .i64 k, .int .i64 i, .int .i64 m, .string d, .int .i64 ep, .slice A N cap] := by rw [hN]; exact kX0
  have a0 := kX.cell 0
  have a1 := kX.cell 1
  have a2 := kX.cell 2
  have a3 := kX.cell 3
  have a4 := kX.cell 4
  have a5 := kX.cell 5
  have a6 := kX.cell 6
  have a7 := kX.cell 7
  have a8 := kX.cell 8
  have a9 := kX.cell 9
  have a10 := kX.cell 10
  have a11 := kX.cell 11
  have a12 := kX.cell 12
  simp at a0 a1 a2 a3 a4 a5 a6 a7 a8 a9 a10 a11 a12
  have htz : (tr == 0) = false := by rw [beq_eq_false_iff_ne]; omega
  have htz2 : ¬ tr = 0 := by omega
  have hx2 : ¬ x = seq := fun e => hx e.symm
  clear kX kX0 hk hN HXA hbX hbw h1
  go_enter Try.func31, Try.ntmps31
  go_wp2_with fail
  try go_ret
  exact hD.out _ _ ⟨by first | rfl | exact ret_bool (by simp [hx]), by first | exact Ext.refl _ | exact (Ext.refl _).drewR⟩

set_option maxRecDepth 8000 in
set_option maxHeartbeats 8000000 in
theorem xanswer_y (base X : Nat) (id n seq ep : Int) (ns : List Int) (c s k i m : Int) (d : ByteArray) (ak tr : Int) (x : Int) (w : World) (H : XAt w X ⟨id, n, seq, ep, ns, some ⟨c, s, k, i, m, d, ak, tr⟩⟩) (hbX : base ≤ X) (hbw : base ≤ w.heap.size) (hx : seq = x) (h1 : 1 ≤ tr) :
    Calls Try.prog 31 #[.pointer (some ⟨X, 0, none⟩), .int .i64 x] w fun e w' => e = .returned (.bool true) ∧ XAt w' X ⟨id, n, seq, ep, ns, none⟩ ∧ Kx base w w' := by
  refine hide_post fun D hD => ?_
  have HXA := Lib.hid H
  have HBX : Hid (base ≤ X ∧ base ≤ w.heap.size) := ⟨hbX, hbw⟩
  obtain ⟨A, cap, hk, kX0⟩ := H
  obtain ⟨N, hN⟩ : ∃ N, N = ns.length := ⟨_, rfl⟩
  have kX : Blk w X 61 #[.int .i64 id, .int .i64 n, .int .i64 seq, .int .i64 ak, .int .i64 tr, .int .i64 c, .int .i64 s, .int .i64 k, .int .i64 i, .int .i64 m, .string d, .int .i64 ep, .slice A N cap] := by rw [hN]; exact kX0
  have a0 := kX.cell 0
  have a1 := kX.cell 1
  have a2 := kX.cell 2
  have a3 := kX.cell 3
  have a4 := kX.cell 4
  have a5 := kX.cell 5
  have a6 := kX.cell 6
  have a7 := kX.cell 7
  have a8 := kX.cell 8
  have a9 := kX.cell 9
  have a10 := kX.cell 10
  have a11 := kX.cell 11
  have a12 := kX.cell 12
  simp at a0 a1 a2 a3 a4 a5 a6 a7 a8 a9 a10 a11 a12
  have htz : (tr == 0) = false := by rw [beq_eq_false_iff_ne]; omega
  have htz2 : ¬ tr = 0 := by omega
  subst hx
  have y0 := kX.set 4 (.int .i64 0)
  have y1 := y0.set 5 (.int .i64 0)
  have y2 := y1.set 6 (.int .i64 0)
  have y3 := y2.set 7 (.int .i64 0)
  have y4 := y3.set 8 (.int .i64 0)
  have y5 := y4.set 9 (.int .i64 0)
  have y6 := y5.set 10 (.string ⟨#[]⟩)
  have gf4 := kX.frozen 4
  have gf5 := y0.frozen 5
  have gc5 := y0.cell 5
  have gf6 := y1.frozen 6
  have gc6 := y1.cell 6
  have gf7 := y2.frozen 7
  have gc7 := y2.cell 7
  have gf8 := y3.frozen 8
  have gc8 := y3.cell 8
  have gf9 := y4.frozen 9
  have gc9 := y4.cell 9
  have gf10 := y5.frozen 10
  have gc10 := y5.cell 10
  simp at gc5 gc6 gc7 gc8 gc9 gc10
  have hf5 := y0.frozen 5
  have hc5 := y0.cell 5
  have hf6 := y0.frozen 6
  have hc6 := y0.cell 6
  have hf7 := y0.frozen 7
  have hc7 := y0.cell 7
  have hf8 := y0.frozen 8
  have hc8 := y0.cell 8
  have hf9 := y0.frozen 9
  have hc9 := y0.cell 9
  have hf10 := y0.frozen 10
  have hc10 := y0.cell 10
  simp at hc5 hc6 hc7 hc8 hc9 hc10
  obtain ⟨W9, hW9⟩ : ∃ W9, W9 = (((((((w.setCell ⟨X, 4, none⟩ (.int .i64 0)).setCell ⟨X, 5, none⟩ (.int .i64 0)).setCell ⟨X, 6, none⟩ (.int .i64 0)).setCell ⟨X, 7, none⟩ (.int .i64 0)).setCell ⟨X, 8, none⟩ (.int .i64 0)).setCell ⟨X, 9, none⟩ (.int .i64 0)).setCell ⟨X, 10, none⟩ (.string ⟨#[]⟩)) := ⟨_, rfl⟩
  have kx9 : Blk W9 X 61 #[.int .i64 id, .int .i64 n, .int .i64 seq, .int .i64 ak, .int .i64 0, .int .i64 0, .int .i64 0, .int .i64 0, .int .i64 0, .int .i64 0, .string ⟨#[]⟩, .int .i64 ep, .slice A N cap] := by rw [hW9]; exact y6
  have hkx : Kx base w W9 := by rw [hW9]; exact ((((((Kx.set kX hbX 4 _).trans (Kx.set y0 hbX 5 _)).trans (Kx.set y1 hbX 6 _)).trans (Kx.set y2 hbX 7 _)).trans (Kx.set y3 hbX 8 _)).trans (Kx.set y4 hbX 9 _)).trans (Kx.set y5 hbX 10 _)
  have HE : Hid (D (.returned (.bool true)) W9) := hD.out _ _ ⟨rfl, ⟨A, cap, hk.kx hkx, _, by rw [← hN]; exact kx9⟩, hkx⟩
  have HW9 := Lib.hid hW9
  clear y0 y1 y2 y3 y4 y5 y6 kx9 hkx hW9 hD
  clear kX kX0 hk hN HXA hbX hbw h1
  go_enter Try.func31, Try.ntmps31
  go_wp2_with fail
  rw [← HW9.out]
  try go_wp2_with fail
  try go_ret
  exact HE.out

end Go.Proofs.Ytnionfddejaalaa
