/-
  The document's client: Told, Ask.
-/
import Derived.Test.YtnionfddejaalaaXClient
namespace Go.Proofs.Ytnionfddejaalaa
set_option linter.unusedVariables false
set_option linter.unusedSimpArgs false
open Go.RowKit

theorem Kx.drew {base : Nat} {w w' : World} (h : Kx base w w') : Kx base w w'.drew := ⟨h.1.drew, h.2⟩
theorem info_int21 : (Try.prog.info? 3).map (fun i => (i.zero, i.size, i.bytes)) = some (some (.int .i64 0), 1, 8) := by kernel_rfl

set_option maxRecDepth 8000 in
set_option maxHeartbeats 8000000 in
theorem xtold_n (base X : Nat) (id n seq ep : Int) (ns : List Int) (x e2 : Int) (A2 : Option Addr) (cap2 : Nat) (l2 : List Int) (w : World) (H : XAt w X ⟨id, n, seq, ep, ns, none⟩) (hbX : base ≤ X) (hbw : base ≤ w.heap.size) (hl2 : l2.length ≤ 1000) (hs2 : Sl i64 w A2 l2) :
    Calls Try.prog 29 #[.pointer (some ⟨X, 0, none⟩), .int .i64 x, .agg #[.int .i64 e2, .slice A2 l2.length cap2]] w fun e w' => e = .returned (.tuple #[]) ∧ Ext w w' := by
  refine hide_post fun D hD => ?_
  have HXA := Lib.hid H
  have HBX : Hid (base ≤ X ∧ base ≤ w.heap.size) := ⟨hbX, hbw⟩
  obtain ⟨A, cap, hk, ak, kX0⟩ := H
  obtain ⟨N, hN⟩ : ∃ N, N = ns.length := ⟨_, rfl⟩
  have kX : Blk w X 61 #[.int .i64 id, .int .i64 n, .int .i64 seq, .int .i64 ak, .int .i64 0, .int .i64 0, .int .i64 0, .int .i64 0, .int .i64 0, .int .i64 0, .string ⟨#[]⟩, .int .i64 ep, .slice A N cap] := by rw [hN]; exact kX0
  obtain ⟨n2, hn2⟩ : ∃ n2, n2 = l2.length := ⟨_, rfl⟩
  rw [← hn2]
  obtain ⟨h0, hh0⟩ : ∃ h0, h0 = w.heap.size := ⟨_, rfl⟩
  obtain ⟨W0, hW0⟩ : ∃ W0, W0 = w.alloc (.cells #[.int .i64 e2, .slice A2 n2 cap2] 59) := ⟨_, rfl⟩
  have kq : Blk W0 h0 59 #[.int .i64 e2, .slice A2 n2 cap2] := by rw [hW0, hh0]; exact Blk.new _ _ _
  have hx0 : Ext w W0 := by rw [hW0]; exact Ext.alloc _ _
  have kX0' := kX.stay hx0
  have fz0 : ∀ V, Ext W0 V → V.cell? ⟨X, 0, none⟩ = some (.int .i64 id) := fun V h => (kX0'.stay h).cell 0
  have fz1 : ∀ V, Ext W0 V → V.cell? ⟨X, 1, none⟩ = some (.int .i64 n) := fun V h => (kX0'.stay h).cell 1
  have fz2 : ∀ V, Ext W0 V → V.cell? ⟨X, 2, none⟩ = some (.int .i64 seq) := fun V h => (kX0'.stay h).cell 2
  have fz3 : ∀ V, Ext W0 V → V.cell? ⟨X, 3, none⟩ = some (.int .i64 ak) := fun V h => (kX0'.stay h).cell 3
  have fz4 : ∀ V, Ext W0 V → V.cell? ⟨X, 4, none⟩ = some (.int .i64 0) := fun V h => (kX0'.stay h).cell 4
  have fz5 : ∀ V, Ext W0 V → V.cell? ⟨X, 5, none⟩ = some (.int .i64 0) := fun V h => (kX0'.stay h).cell 5
  have fz6 : ∀ V, Ext W0 V → V.cell? ⟨X, 6, none⟩ = some (.int .i64 0) := fun V h => (kX0'.stay h).cell 6
  have fz7 : ∀ V, Ext W0 V → V.cell? ⟨X, 7, none⟩ = some (.int .i64 0) := fun V h => (kX0'.stay h).cell 7
  have fz8 : ∀ V, Ext W0 V → V.cell? ⟨X, 8, none⟩ = some (.int .i64 0) := fun V h => (kX0'.stay h).cell 8
  have fz9 : ∀ V, Ext W0 V → V.cell? ⟨X, 9, none⟩ = some (.int .i64 0) := fun V h => (kX0'.stay h).cell 9
  have fz10 : ∀ V, Ext W0 V → V.cell? ⟨X, 10, none⟩ = some (.string ⟨#[]⟩) := fun V h => (kX0'.stay h).cell 10
  have fz11 : ∀ V, Ext W0 V → V.cell? ⟨X, 11, none⟩ = some (.int .i64 ep) := fun V h => (kX0'.stay h).cell 11
  have fz12 : ∀ V, Ext W0 V → V.cell? ⟨X, 12, none⟩ = some (.slice A N cap) := fun V h => (kX0'.stay h).cell 12
  have fq0 : ∀ V, Ext W0 V → V.cell? ⟨h0, 0, none⟩ = some (.int .i64 e2) := fun V h => (kq.stay h).cell 0
  have fq1 : ∀ V, Ext W0 V → V.cell? ⟨h0, 1, none⟩ = some (.slice A2 n2 cap2) := fun V h => (kq.stay h).cell 1
  have HW0 := Lib.hid (And.intro hW0 hh0)
  have HX0 := Lib.hid hx0
  have HKX := Lib.hid kX0'
  have HKQ := Lib.hid kq
  have HN := Lib.hid hN
  have HN2 : Hid (n2 = l2.length ∧ l2.length ≤ 1000) := ⟨hn2, hl2⟩
  have HH0 : Hid (h0 = w.heap.size ∧ X < w.heap.size) := ⟨hh0, kX.lt⟩
  have HSL : Hid (∀ V, Ext W0 V → Sl i64 V A2 l2) := fun V hV => hs2.stay (Ext.trans hx0 hV)
  clear kX kX0 kX0' kq hk hN HXA hbX hbw hn2 hl2 hs2 hW0 hx0 hh0   
  have E0 : Hid (Ext W0 W0) := Ext.refl _
  go_enter Try.func29, Try.ntmps29
  go_wp2_with fail
  rw [← HW0.out.1, ← HW0.out.2]
  refine ext_begin (by kernel_rfl) ?_
  have E0d := Lib.hid (Ext.drewR E0.out)
  refine ext_take (i := 0) (v := ?_) rfl (by kernel_rfl) (by kernel_rfl) (by kernel_rfl) (fun _ _ _ h => h) (by rfl) ?_ ?_
  rotate_left
  · intro W hW; have hW0 := Ext.trans E0d.out hW; clear hW; go_simp <;> with_reducible rfl
  try simp only [Act.put, List.setIfInBounds_toArray, List.set_cons_zero, List.set_cons_succ]
  refine ext_take (i := 1) (v := ?_) rfl (by kernel_rfl) (by kernel_rfl) (by kernel_rfl) (fun _ _ _ h => h) (by rfl) ?_ ?_
  rotate_left
  · intro W hW; have hW0 := Ext.trans E0d.out hW; clear hW; go_simp <;> with_reducible rfl
  try simp only [Act.put, List.setIfInBounds_toArray, List.set_cons_zero, List.set_cons_succ]
  refine ext_take (i := 2) (v := ?_) rfl (by kernel_rfl) (by kernel_rfl) (by kernel_rfl) (fun _ _ _ h => h) (by rfl) ?_ ?_
  rotate_left
  · intro W hW; have hW0 := Ext.trans E0d.out hW; clear hW; go_simp <;> with_reducible rfl
  try simp only [Act.put, List.setIfInBounds_toArray, List.set_cons_zero, List.set_cons_succ]
  refine ext_take (i := 3) (v := ?_) rfl (by kernel_rfl) (by kernel_rfl) (by kernel_rfl) (fun _ _ _ h => h) (by rfl) ?_ ?_
  rotate_left
  · intro W hW; have hW0 := Ext.trans E0d.out hW; clear hW; go_simp <;> with_reducible rfl
  try simp only [Act.put, List.setIfInBounds_toArray, List.set_cons_zero, List.set_cons_succ]
  refine ext_take (i := 4) (v := ?_) rfl (by kernel_rfl) (by kernel_rfl) (by kernel_rfl) (fun _ _ _ h => h) (by rfl) ?_ ?_
  rotate_left
  · intro W hW; have hW0 := Ext.trans E0d.out hW; clear hW; go_simp <;> with_reducible rfl
  try simp only [Act.put, List.setIfInBounds_toArray, List.set_cons_zero, List.set_cons_succ]
  refine ext_take (i := 5) (v := ?_) rfl (by kernel_rfl) (by kernel_rfl) (by kernel_rfl) (fun _ _ _ h => h) (by rfl) ?_ ?_
  rotate_left
  · intro W hW; have hW0 := Ext.trans E0d.out hW; clear hW; go_simp <;> with_reducible rfl
  try simp only [Act.put, List.setIfInBounds_toArray, List.set_cons_zero, List.set_cons_succ]
  refine ext_skip (i := 6) rfl (by kernel_rfl) (by kernel_rfl) (by kernel_rfl) (fun _ _ _ h => h) (by rfl) ?_
  try simp only [Act.put, List.setIfInBounds_toArray, List.set_cons_zero, List.set_cons_succ]
  refine ext_skip (i := 7) rfl (by kernel_rfl) (by kernel_rfl) (by kernel_rfl) (fun _ _ _ h => h) (by rfl) ?_
  try simp only [Act.put, List.setIfInBounds_toArray, List.set_cons_zero, List.set_cons_succ]
  refine ext_skip (i := 8) rfl (by kernel_rfl) (by kernel_rfl) (by kernel_rfl) (fun _ _ _ h => h) (by rfl) ?_
  try simp only [Act.put, List.setIfInBounds_toArray, List.set_cons_zero, List.set_cons_succ]
  refine ext_skip (i := 9) rfl (by kernel_rfl) (by kernel_rfl) (by kernel_rfl) (fun _ _ _ h => h) (by rfl) ?_
  try simp only [Act.put, List.setIfInBounds_toArray, List.set_cons_zero, List.set_cons_succ]
  refine ext_skip (i := 10) rfl (by kernel_rfl) (by kernel_rfl) (by kernel_rfl) (fun _ _ _ h => h) (by rfl) ?_
  try simp only [Act.put, List.setIfInBounds_toArray, List.set_cons_zero, List.set_cons_succ]
  refine ext_skip (i := 11) rfl (by kernel_rfl) (by kernel_rfl) (by kernel_rfl) (fun _ _ _ h => h) (by rfl) ?_
  try simp only [Act.put, List.setIfInBounds_toArray, List.set_cons_zero, List.set_cons_succ]
  refine ext_take (i := 12) (v := ?_) rfl (by kernel_rfl) (by kernel_rfl) (by kernel_rfl) (fun _ _ _ h => h) (by rfl) ?_ ?_
  rotate_left
  · intro W hW; have hW0 := Ext.trans E0d.out hW; clear hW; go_simp <;> with_reducible rfl
  try simp only [Act.put, List.setIfInBounds_toArray, List.set_cons_zero, List.set_cons_succ]
  refine ext_take (i := 13) (v := ?_) rfl (by kernel_rfl) (by kernel_rfl) (by kernel_rfl) (fun _ _ _ h => h) (by rfl) ?_ ?_
  rotate_left
  · intro W hW; have hW0 := Ext.trans E0d.out hW; clear hW; go_simp <;> with_reducible rfl
  try simp only [Act.put, List.setIfInBounds_toArray, List.set_cons_zero, List.set_cons_succ]
  refine ext_skip (i := 14) rfl (by kernel_rfl) (by kernel_rfl) (by kernel_rfl) (fun _ _ _ h => h) (by rfl) ?_
  try simp only [Act.put, List.setIfInBounds_toArray, List.set_cons_zero, List.set_cons_succ]
  refine ext_skip (i := 15) rfl (by kernel_rfl) (by kernel_rfl) (by kernel_rfl) (fun _ _ _ h => h) (by rfl) ?_
  try simp only [Act.put, List.setIfInBounds_toArray, List.set_cons_zero, List.set_cons_succ]
  refine ext_take (i := 16) (v := ?_) rfl (by kernel_rfl) (by kernel_rfl) (by kernel_rfl) (fun _ _ _ h => h) (by rfl) ?_ ?_
  rotate_left
  · intro W hW; have hW0 := Ext.trans E0d.out hW; clear hW; go_simp <;> with_reducible rfl
  try simp only [Act.put, List.setIfInBounds_toArray, List.set_cons_zero, List.set_cons_succ]
  refine ext_take (i := 17) (v := ?_) rfl (by kernel_rfl) (by kernel_rfl) (by kernel_rfl) (fun _ _ _ h => h) (by rfl) ?_ ?_
  rotate_left
  · intro W hW; have hW0 := Ext.trans E0d.out hW; clear hW; go_simp <;> with_reducible rfl
  try simp only [Act.put, List.setIfInBounds_toArray, List.set_cons_zero, List.set_cons_succ]
  refine ext_skip (i := 18) rfl (by kernel_rfl) (by kernel_rfl) (by kernel_rfl) (fun _ _ _ h => h) (by rfl) ?_
  try simp only [Act.put, List.setIfInBounds_toArray, List.set_cons_zero, List.set_cons_succ]
  refine ext_skip (i := 19) rfl (by kernel_rfl) (by kernel_rfl) (by kernel_rfl) (fun _ _ _ h => h) (by rfl) ?_
  try simp only [Act.put, List.setIfInBounds_toArray, List.set_cons_zero, List.set_cons_succ]
  refine ext_skip (i := 20) rfl (by kernel_rfl) (by kernel_rfl) (by kernel_rfl) (fun _ _ _ h => h) (by rfl) ?_
  try simp only [Act.put, List.setIfInBounds_toArray, List.set_cons_zero, List.set_cons_succ]
  refine ext_skip (i := 21) rfl (by kernel_rfl) (by kernel_rfl) (by kernel_rfl) (fun _ _ _ h => h) (by rfl) ?_
  try simp only [Act.put, List.setIfInBounds_toArray, List.set_cons_zero, List.set_cons_succ]
  refine ext_skip (i := 22) rfl (by kernel_rfl) (by kernel_rfl) (by kernel_rfl) (fun _ _ _ h => h) (by rfl) ?_
  try simp only [Act.put, List.setIfInBounds_toArray, List.set_cons_zero, List.set_cons_succ]
  refine ext_skip (i := 23) rfl (by kernel_rfl) (by kernel_rfl) (by kernel_rfl) (fun _ _ _ h => h) (by rfl) ?_
  try simp only [Act.put, List.setIfInBounds_toArray, List.set_cons_zero, List.set_cons_succ]
  refine ext_skip (i := 24) rfl (by kernel_rfl) (by kernel_rfl) (by kernel_rfl) (fun _ _ _ h => h) (by rfl) ?_
  try simp only [Act.put, List.setIfInBounds_toArray, List.set_cons_zero, List.set_cons_succ]
  refine ext_skip (i := 25) rfl (by kernel_rfl) (by kernel_rfl) (by kernel_rfl) (fun _ _ _ h => h) (by rfl) ?_
  try simp only [Act.put, List.setIfInBounds_toArray, List.set_cons_zero, List.set_cons_succ]
  refine ext_take (i := 26) (v := ?_) rfl (by kernel_rfl) (by kernel_rfl) (by kernel_rfl) (fun _ _ _ h => h) (by rfl) ?_ ?_
  rotate_left
  · intro W hW; have hW0 := Ext.trans E0d.out hW; clear hW; go_simp <;> with_reducible rfl
  try simp only [Act.put, List.setIfInBounds_toArray, List.set_cons_zero, List.set_cons_succ]
  refine wpAnyH_done (by kernel_rfl) ?_ _
  have EX := Lib.hid E0d.out
  clear E0d E0
  try go_wp2_with fail
  all_goals try go_end0
  all_goals exact hD.out _ _ ⟨rfl, Ext.trans HX0.out EX.out⟩

set_option maxRecDepth 8000 in
set_option maxHeartbeats 8000000 in
theorem xtold_o (base X : Nat) (id n seq ep : Int) (ns : List Int) (c s k i m : Int) (d : ByteArray) (ak tr : Int) (x e2 : Int) (A2 : Option Addr) (cap2 : Nat) (l2 : List Int) (w : World) (H : XAt w X ⟨id, n, seq, ep, ns, some ⟨c, s, k, i, m, d, ak, tr⟩⟩) (hbX : base ≤ X) (hbw : base ≤ w.heap.size) (hl2 : l2.length ≤ 1000) (hs2 : Sl i64 w A2 l2) (hx : ¬ seq = x) (h1 : 1 ≤ tr) :
    Calls Try.prog 29 #[.pointer (some ⟨X, 0, none⟩), .int .i64 x, .agg #[.int .i64 e2, .slice A2 l2.length cap2]] w fun e w' => e = .returned (.tuple #[]) ∧ Ext w w' := by
  refine hide_post fun D hD => ?_
  have HXA := Lib.hid H
  have HBX : Hid (base ≤ X ∧ base ≤ w.heap.size) := ⟨hbX, hbw⟩
  obtain ⟨A, cap, hk, kX0⟩ := H
  obtain ⟨N, hN⟩ : ∃ N, N = ns.length := ⟨_, rfl⟩
  have kX : Blk w X 61 #[.int .i64 id, .int .i64 n, .int .i64 seq, .int .i64 ak, .int .i64 tr, .int .i64 c, .int .i64 s, .int .i64 k, .int .i64 i, .int .i64 m, .string d, .int .i64 ep, .slice A N cap] := by rw [hN]; exact kX0
  obtain ⟨n2, hn2⟩ : ∃ n2, n2 = l2.length := ⟨_, rfl⟩
  rw [← hn2]
  obtain ⟨h0, hh0⟩ : ∃ h0, h0 = w.heap.size := ⟨_, rfl⟩
  obtain ⟨W0, hW0⟩ : ∃ W0, W0 = w.alloc (.cells #[.int .i64 e2, .slice A2 n2 cap2] 59) := ⟨_, rfl⟩
  have kq : Blk W0 h0 59 #[.int .i64 e2, .slice A2 n2 cap2] := by rw [hW0, hh0]; exact Blk.new _ _ _
  have hx0 : Ext w W0 := by rw [hW0]; exact Ext.alloc _ _
  have kX0' := kX.stay hx0
  have fz0 : ∀ V, Ext W0 V → V.cell? ⟨X, 0, none⟩ = some (.int .i64 id) := fun V h => (kX0'.stay h).cell 0
  have fz1 : ∀ V, Ext W0 V → V.cell? ⟨X, 1, none⟩ = some (.int .i64 n) := fun V h => (kX0'.stay h).cell 1
  have fz2 : ∀ V, Ext W0 V → V.cell? ⟨X, 2, none⟩ = some (.int .i64 seq) := fun V h => (kX0'.stay h).cell 2
  have fz3 : ∀ V, Ext W0 V → V.cell? ⟨X, 3, none⟩ = some (.int .i64 ak) := fun V h => (kX0'.stay h).cell 3
  have fz4 : ∀ V, Ext W0 V → V.cell? ⟨X, 4, none⟩ = some (.int .i64 tr) := fun V h => (kX0'.stay h).cell 4
  have fz5 : ∀ V, Ext W0 V → V.cell? ⟨X, 5, none⟩ = some (.int .i64 c) := fun V h => (kX0'.stay h).cell 5
  have fz6 : ∀ V, Ext W0 V → V.cell? ⟨X, 6, none⟩ = some (.int .i64 s) := fun V h => (kX0'.stay h).cell 6
  have fz7 : ∀ V, Ext W0 V → V.cell? ⟨X, 7, none⟩ = some (.int .i64 k) := fun V h => (kX0'.stay h).cell 7
  have fz8 : ∀ V, Ext W0 V → V.cell? ⟨X, 8, none⟩ = some (.int .i64 i) := fun V h => (kX0'.stay h).cell 8
  have fz9 : ∀ V, Ext W0 V → V.cell? ⟨X, 9, none⟩ = some (.int .i64 m) := fun V h => (kX0'.stay h).cell 9
  have fz10 : ∀ V, Ext W0 V → V.cell? ⟨X, 10, none⟩ = some (.string d) := fun V h => (kX0'.stay h).cell 10
  have fz11 : ∀ V, Ext W0 V → V.cell? ⟨X, 11, none⟩ = some (.int .i64 ep) := fun V h => (kX0'.stay h).cell 11
  have fz12 : ∀ V, Ext W0 V → V.cell? ⟨X, 12, none⟩ = some (.slice A N cap) := fun V h => (kX0'.stay h).cell 12
  have fq0 : ∀ V, Ext W0 V → V.cell? ⟨h0, 0, none⟩ = some (.int .i64 e2) := fun V h => (kq.stay h).cell 0
  have fq1 : ∀ V, Ext W0 V → V.cell? ⟨h0, 1, none⟩ = some (.slice A2 n2 cap2) := fun V h => (kq.stay h).cell 1
  have htp : (0 : Int) < tr := by omega
  have hx2 : ¬ x = seq := fun e => hx e.symm
  have HW0 := Lib.hid (And.intro hW0 hh0)
  have HX0 := Lib.hid hx0
  have HKX := Lib.hid kX0'
  have HKQ := Lib.hid kq
  have HN := Lib.hid hN
  have HN2 : Hid (n2 = l2.length ∧ l2.length ≤ 1000) := ⟨hn2, hl2⟩
  have HH0 : Hid (h0 = w.heap.size ∧ X < w.heap.size) := ⟨hh0, kX.lt⟩
  have HSL : Hid (∀ V, Ext W0 V → Sl i64 V A2 l2) := fun V hV => hs2.stay (Ext.trans hx0 hV)
  clear kX kX0 kX0' kq hk hN HXA hbX hbw hn2 hl2 hs2 hW0 hx0 hh0 h1 hx 
  have E0 : Hid (Ext W0 W0) := Ext.refl _
  go_enter Try.func29, Try.ntmps29
  go_wp2_with fail
  rw [← HW0.out.1, ← HW0.out.2]
  refine ext_begin (by kernel_rfl) ?_
  have E0d := Lib.hid (Ext.drewR E0.out)
  refine ext_take (i := 0) (v := ?_) rfl (by kernel_rfl) (by kernel_rfl) (by kernel_rfl) (fun _ _ _ h => h) (by rfl) ?_ ?_
  rotate_left
  · intro W hW; have hW0 := Ext.trans E0d.out hW; clear hW; go_simp <;> with_reducible rfl
  try simp only [Act.put, List.setIfInBounds_toArray, List.set_cons_zero, List.set_cons_succ]
  refine ext_take (i := 1) (v := ?_) rfl (by kernel_rfl) (by kernel_rfl) (by kernel_rfl) (fun _ _ _ h => h) (by rfl) ?_ ?_
  rotate_left
  · intro W hW; have hW0 := Ext.trans E0d.out hW; clear hW; go_simp <;> with_reducible rfl
  try simp only [Act.put, List.setIfInBounds_toArray, List.set_cons_zero, List.set_cons_succ]
  refine ext_take (i := 2) (v := ?_) rfl (by kernel_rfl) (by kernel_rfl) (by kernel_rfl) (fun _ _ _ h => h) (by rfl) ?_ ?_
  rotate_left
  · intro W hW; have hW0 := Ext.trans E0d.out hW; clear hW; go_simp <;> with_reducible rfl
  try simp only [Act.put, List.setIfInBounds_toArray, List.set_cons_zero, List.set_cons_succ]
  refine ext_take (i := 3) (v := ?_) rfl (by kernel_rfl) (by kernel_rfl) (by kernel_rfl) (fun _ _ _ h => h) (by rfl) ?_ ?_
  rotate_left
  · intro W hW; have hW0 := Ext.trans E0d.out hW; clear hW; go_simp <;> with_reducible rfl
  try simp only [Act.put, List.setIfInBounds_toArray, List.set_cons_zero, List.set_cons_succ]
  refine ext_take (i := 4) (v := .bool true) rfl (by kernel_rfl) (by kernel_rfl) (by kernel_rfl) (fun _ _ _ h => h) (by rfl) ?_ ?_
  · intro W hW; have hW0 := Ext.trans E0d.out hW; clear hW; go_simp; all_goals (first | done | omega | (simp; omega))
  try simp only [Act.put, List.setIfInBounds_toArray, List.set_cons_zero, List.set_cons_succ]
  refine ext_take (i := 5) (v := ?_) rfl (by kernel_rfl) (by kernel_rfl) (by kernel_rfl) (fun _ _ _ h => h) (by rfl) ?_ ?_
  rotate_left
  · intro W hW; have hW0 := Ext.trans E0d.out hW; clear hW; go_simp <;> with_reducible rfl
  try simp only [Act.put, List.setIfInBounds_toArray, List.set_cons_zero, List.set_cons_succ]
  refine ext_take (i := 6) (v := ?_) rfl (by kernel_rfl) (by kernel_rfl) (by kernel_rfl) (fun _ _ _ h => h) (by rfl) ?_ ?_
  rotate_left
  · intro W hW; have hW0 := Ext.trans E0d.out hW; clear hW; go_simp <;> with_reducible rfl
  try simp only [Act.put, List.setIfInBounds_toArray, List.set_cons_zero, List.set_cons_succ]
  refine ext_take (i := 7) (v := ?_) rfl (by kernel_rfl) (by kernel_rfl) (by kernel_rfl) (fun _ _ _ h => h) (by rfl) ?_ ?_
  rotate_left
  · intro W hW; have hW0 := Ext.trans E0d.out hW; clear hW; go_simp <;> with_reducible rfl
  try simp only [Act.put, List.setIfInBounds_toArray, List.set_cons_zero, List.set_cons_succ]
  refine ext_take (i := 8) (v := ?_) rfl (by kernel_rfl) (by kernel_rfl) (by kernel_rfl) (fun _ _ _ h => h) (by rfl) ?_ ?_
  rotate_left
  · intro W hW; have hW0 := Ext.trans E0d.out hW; clear hW; go_simp <;> with_reducible rfl
  try simp only [Act.put, List.setIfInBounds_toArray, List.set_cons_zero, List.set_cons_succ]
  refine ext_take (i := 9) (v := ?_) rfl (by kernel_rfl) (by kernel_rfl) (by kernel_rfl) (fun _ _ _ h => h) (by rfl) ?_ ?_
  rotate_left
  · intro W hW; have hW0 := Ext.trans E0d.out hW; clear hW; go_simp <;> with_reducible rfl
  try simp only [Act.put, List.setIfInBounds_toArray, List.set_cons_zero, List.set_cons_succ]
  refine ext_take (i := 10) (v := ?_) rfl (by kernel_rfl) (by kernel_rfl) (by kernel_rfl) (fun _ _ _ h => h) (by rfl) ?_ ?_
  rotate_left
  · intro W hW; have hW0 := Ext.trans E0d.out hW; clear hW; go_simp <;> with_reducible rfl
  try simp only [Act.put, List.setIfInBounds_toArray, List.set_cons_zero, List.set_cons_succ]
  refine ext_take (i := 11) (v := .bool false) rfl (by kernel_rfl) (by kernel_rfl) (by kernel_rfl) (fun _ _ _ h => h) (by rfl) ?_ ?_
  · intro W hW; have hW0 := Ext.trans E0d.out hW; clear hW; go_simp; all_goals (first | done | (simp [hx2]; done))
  try simp only [Act.put, List.setIfInBounds_toArray, List.set_cons_zero, List.set_cons_succ]
  refine ext_take (i := 12) (v := ?_) rfl (by kernel_rfl) (by kernel_rfl) (by kernel_rfl) (fun _ _ _ h => h) (by rfl) ?_ ?_
  rotate_left
  · intro W hW; have hW0 := Ext.trans E0d.out hW; clear hW; go_simp <;> with_reducible rfl
  try simp only [Act.put, List.setIfInBounds_toArray, List.set_cons_zero, List.set_cons_succ]
  refine ext_take (i := 13) (v := ?_) rfl (by kernel_rfl) (by kernel_rfl) (by kernel_rfl) (fun _ _ _ h => h) (by rfl) ?_ ?_
  rotate_left
  · intro W hW; have hW0 := Ext.trans E0d.out hW; clear hW; go_simp <;> with_reducible rfl
  try simp only [Act.put, List.setIfInBounds_toArray, List.set_cons_zero, List.set_cons_succ]
  refine ext_skip (i := 14) rfl (by kernel_rfl) (by kernel_rfl) (by kernel_rfl) (fun _ _ _ h => h) (by rfl) ?_
  try simp only [Act.put, List.setIfInBounds_toArray, List.set_cons_zero, List.set_cons_succ]
  refine ext_skip (i := 15) rfl (by kernel_rfl) (by kernel_rfl) (by kernel_rfl) (fun _ _ _ h => h) (by rfl) ?_
  try simp only [Act.put, List.setIfInBounds_toArray, List.set_cons_zero, List.set_cons_succ]
  refine ext_take (i := 16) (v := ?_) rfl (by kernel_rfl) (by kernel_rfl) (by kernel_rfl) (fun _ _ _ h => h) (by rfl) ?_ ?_
  rotate_left
  · intro W hW; have hW0 := Ext.trans E0d.out hW; clear hW; go_simp <;> with_reducible rfl
  try simp only [Act.put, List.setIfInBounds_toArray, List.set_cons_zero, List.set_cons_succ]
  refine ext_take (i := 17) (v := ?_) rfl (by kernel_rfl) (by kernel_rfl) (by kernel_rfl) (fun _ _ _ h => h) (by rfl) ?_ ?_
  rotate_left
  · intro W hW; have hW0 := Ext.trans E0d.out hW; clear hW; go_simp <;> with_reducible rfl
  try simp only [Act.put, List.setIfInBounds_toArray, List.set_cons_zero, List.set_cons_succ]
  refine ext_skip (i := 18) rfl (by kernel_rfl) (by kernel_rfl) (by kernel_rfl) (fun _ _ _ h => h) (by rfl) ?_
  try simp only [Act.put, List.setIfInBounds_toArray, List.set_cons_zero, List.set_cons_succ]
  refine ext_skip (i := 19) rfl (by kernel_rfl) (by kernel_rfl) (by kernel_rfl) (fun _ _ _ h => h) (by rfl) ?_
  try simp only [Act.put, List.setIfInBounds_toArray, List.set_cons_zero, List.set_cons_succ]
  refine ext_skip (i := 20) rfl (by kernel_rfl) (by kernel_rfl) (by kernel_rfl) (fun _ _ _ h => h) (by rfl) ?_
  try simp only [Act.put, List.setIfInBounds_toArray, List.set_cons_zero, List.set_cons_succ]
  refine ext_skip (i := 21) rfl (by kernel_rfl) (by kernel_rfl) (by kernel_rfl) (fun _ _ _ h => h) (by rfl) ?_
  try simp only [Act.put, List.setIfInBounds_toArray, List.set_cons_zero, List.set_cons_succ]
  refine ext_skip (i := 22) rfl (by kernel_rfl) (by kernel_rfl) (by kernel_rfl) (fun _ _ _ h => h) (by rfl) ?_
  try simp only [Act.put, List.setIfInBounds_toArray, List.set_cons_zero, List.set_cons_succ]
  refine ext_skip (i := 23) rfl (by kernel_rfl) (by kernel_rfl) (by kernel_rfl) (fun _ _ _ h => h) (by rfl) ?_
  try simp only [Act.put, List.setIfInBounds_toArray, List.set_cons_zero, List.set_cons_succ]
  refine ext_skip (i := 24) rfl (by kernel_rfl) (by kernel_rfl) (by kernel_rfl) (fun _ _ _ h => h) (by rfl) ?_
  try simp only [Act.put, List.setIfInBounds_toArray, List.set_cons_zero, List.set_cons_succ]
  refine ext_skip (i := 25) rfl (by kernel_rfl) (by kernel_rfl) (by kernel_rfl) (fun _ _ _ h => h) (by rfl) ?_
  try simp only [Act.put, List.setIfInBounds_toArray, List.set_cons_zero, List.set_cons_succ]
  refine ext_take (i := 26) (v := ?_) rfl (by kernel_rfl) (by kernel_rfl) (by kernel_rfl) (fun _ _ _ h => h) (by rfl) ?_ ?_
  rotate_left
  · intro W hW; have hW0 := Ext.trans E0d.out hW; clear hW; go_simp <;> with_reducible rfl
  try simp only [Act.put, List.setIfInBounds_toArray, List.set_cons_zero, List.set_cons_succ]
  refine wpAnyH_done (by kernel_rfl) ?_ _
  have EX := Lib.hid E0d.out
  clear E0d E0
  try go_wp2_with fail
  all_goals try go_end0
  all_goals exact hD.out _ _ ⟨rfl, Ext.trans HX0.out EX.out⟩

set_option maxRecDepth 8000 in
set_option maxHeartbeats 8000000 in
theorem xtold_b (base X : Nat) (id n seq ep : Int) (ns : List Int) (c s k i m : Int) (d : ByteArray) (ak tr : Int) (x e2 : Int) (A2 : Option Addr) (cap2 : Nat) (l2 : List Int) (w : World) (H : XAt w X ⟨id, n, seq, ep, ns, some ⟨c, s, k, i, m, d, ak, tr⟩⟩) (hbX : base ≤ X) (hbw : base ≤ w.heap.size) (hl2 : l2.length ≤ 1000) (hs2 : Sl i64 w A2 l2) (hx : seq = x) (h1 : 1 ≤ tr) (hm : mayChainB e2 l2 = false) :
    Calls Try.prog 29 #[.pointer (some ⟨X, 0, none⟩), .int .i64 x, .agg #[.int .i64 e2, .slice A2 l2.length cap2]] w fun e w' => e = .returned (.tuple #[]) ∧ Ext w w' := by
  refine hide_post fun D hD => ?_
  have HXA := Lib.hid H
  have HBX : Hid (base ≤ X ∧ base ≤ w.heap.size) := ⟨hbX, hbw⟩
  obtain ⟨A, cap, hk, kX0⟩ := H
  obtain ⟨N, hN⟩ : ∃ N, N = ns.length := ⟨_, rfl⟩
  have kX : Blk w X 61 #[.int .i64 id, .int .i64 n, .int .i64 seq, .int .i64 ak, .int .i64 tr, .int .i64 c, .int .i64 s, .int .i64 k, .int .i64 i, .int .i64 m, .string d, .int .i64 ep, .slice A N cap] := by rw [hN]; exact kX0
  obtain ⟨n2, hn2⟩ : ∃ n2, n2 = l2.length := ⟨_, rfl⟩
  rw [← hn2]
  obtain ⟨h0, hh0⟩ : ∃ h0, h0 = w.heap.size := ⟨_, rfl⟩
  obtain ⟨W0, hW0⟩ : ∃ W0, W0 = w.alloc (.cells #[.int .i64 e2, .slice A2 n2 cap2] 59) := ⟨_, rfl⟩
  have kq : Blk W0 h0 59 #[.int .i64 e2, .slice A2 n2 cap2] := by rw [hW0, hh0]; exact Blk.new _ _ _
  have hx0 : Ext w W0 := by rw [hW0]; exact Ext.alloc _ _
  have kX0' := kX.stay hx0
  have fz0 : ∀ V, Ext W0 V → V.cell? ⟨X, 0, none⟩ = some (.int .i64 id) := fun V h => (kX0'.stay h).cell 0
  have fz1 : ∀ V, Ext W0 V → V.cell? ⟨X, 1, none⟩ = some (.int .i64 n) := fun V h => (kX0'.stay h).cell 1
  have fz2 : ∀ V, Ext W0 V → V.cell? ⟨X, 2, none⟩ = some (.int .i64 seq) := fun V h => (kX0'.stay h).cell 2
  have fz3 : ∀ V, Ext W0 V → V.cell? ⟨X, 3, none⟩ = some (.int .i64 ak) := fun V h => (kX0'.stay h).cell 3
  have fz4 : ∀ V, Ext W0 V → V.cell? ⟨X, 4, none⟩ = some (.int .i64 tr) := fun V h => (kX0'.stay h).cell 4
  have fz5 : ∀ V, Ext W0 V → V.cell? ⟨X, 5, none⟩ = some (.int .i64 c) := fun V h => (kX0'.stay h).cell 5
  have fz6 : ∀ V, Ext W0 V → V.cell? ⟨X, 6, none⟩ = some (.int .i64 s) := fun V h => (kX0'.stay h).cell 6
  have fz7 : ∀ V, Ext W0 V → V.cell? ⟨X, 7, none⟩ = some (.int .i64 k) := fun V h => (kX0'.stay h).cell 7
  have fz8 : ∀ V, Ext W0 V → V.cell? ⟨X, 8, none⟩ = some (.int .i64 i) := fun V h => (kX0'.stay h).cell 8
  have fz9 : ∀ V, Ext W0 V → V.cell? ⟨X, 9, none⟩ = some (.int .i64 m) := fun V h => (kX0'.stay h).cell 9
  have fz10 : ∀ V, Ext W0 V → V.cell? ⟨X, 10, none⟩ = some (.string d) := fun V h => (kX0'.stay h).cell 10
  have fz11 : ∀ V, Ext W0 V → V.cell? ⟨X, 11, none⟩ = some (.int .i64 ep) := fun V h => (kX0'.stay h).cell 11
  have fz12 : ∀ V, Ext W0 V → V.cell? ⟨X, 12, none⟩ = some (.slice A N cap) := fun V h => (kX0'.stay h).cell 12
  have fq0 : ∀ V, Ext W0 V → V.cell? ⟨h0, 0, none⟩ = some (.int .i64 e2) := fun V h => (kq.stay h).cell 0
  have fq1 : ∀ V, Ext W0 V → V.cell? ⟨h0, 1, none⟩ = some (.slice A2 n2 cap2) := fun V h => (kq.stay h).cell 1
  have htp : (0 : Int) < tr := by omega
  subst hx
  have CM : Hid (∀ V, Ext W0 V → Calls Try.prog 49 #[.agg #[.int .i64 e2, .slice A2 n2 cap2]] V fun e w' => e = .returned (.bool false) ∧ Ext V w') := fun V hV => by rw [← hm, hn2]; exact refMayChain_any e2 A2 cap2 l2 V (by omega) (hs2.stay (Ext.trans hx0 hV))
  have HW0 := Lib.hid (And.intro hW0 hh0)
  have HX0 := Lib.hid hx0
  have HKX := Lib.hid kX0'
  have HKQ := Lib.hid kq
  have HN := Lib.hid hN
  have HN2 : Hid (n2 = l2.length ∧ l2.length ≤ 1000) := ⟨hn2, hl2⟩
  have HH0 : Hid (h0 = w.heap.size ∧ X < w.heap.size) := ⟨hh0, kX.lt⟩
  have HSL : Hid (∀ V, Ext W0 V → Sl i64 V A2 l2) := fun V hV => hs2.stay (Ext.trans hx0 hV)
  clear kX kX0 kX0' kq hk hN HXA hbX hbw hn2 hl2 hs2 hW0 hx0 hh0 h1  hm
  have E0 : Hid (Ext W0 W0) := Ext.refl _
  go_enter Try.func29, Try.ntmps29
  go_wp2_with fail
  rw [← HW0.out.1, ← HW0.out.2]
  refine ext_begin (by kernel_rfl) ?_
  have E0d := Lib.hid (Ext.drewR E0.out)
  refine ext_take (i := 0) (v := ?_) rfl (by kernel_rfl) (by kernel_rfl) (by kernel_rfl) (fun _ _ _ h => h) (by rfl) ?_ ?_
  rotate_left
  · intro W hW; have hW0 := Ext.trans E0d.out hW; clear hW; go_simp <;> with_reducible rfl
  try simp only [Act.put, List.setIfInBounds_toArray, List.set_cons_zero, List.set_cons_succ]
  refine ext_take (i := 1) (v := ?_) rfl (by kernel_rfl) (by kernel_rfl) (by kernel_rfl) (fun _ _ _ h => h) (by rfl) ?_ ?_
  rotate_left
  · intro W hW; have hW0 := Ext.trans E0d.out hW; clear hW; go_simp <;> with_reducible rfl
  try simp only [Act.put, List.setIfInBounds_toArray, List.set_cons_zero, List.set_cons_succ]
  refine ext_take (i := 2) (v := ?_) rfl (by kernel_rfl) (by kernel_rfl) (by kernel_rfl) (fun _ _ _ h => h) (by rfl) ?_ ?_
  rotate_left
  · intro W hW; have hW0 := Ext.trans E0d.out hW; clear hW; go_simp <;> with_reducible rfl
  try simp only [Act.put, List.setIfInBounds_toArray, List.set_cons_zero, List.set_cons_succ]
  refine ext_take (i := 3) (v := ?_) rfl (by kernel_rfl) (by kernel_rfl) (by kernel_rfl) (fun _ _ _ h => h) (by rfl) ?_ ?_
  rotate_left
  · intro W hW; have hW0 := Ext.trans E0d.out hW; clear hW; go_simp <;> with_reducible rfl
  try simp only [Act.put, List.setIfInBounds_toArray, List.set_cons_zero, List.set_cons_succ]
  refine ext_take (i := 4) (v := .bool true) rfl (by kernel_rfl) (by kernel_rfl) (by kernel_rfl) (fun _ _ _ h => h) (by rfl) ?_ ?_
  · intro W hW; have hW0 := Ext.trans E0d.out hW; clear hW; go_simp; all_goals (first | done | omega | (simp; omega))
  try simp only [Act.put, List.setIfInBounds_toArray, List.set_cons_zero, List.set_cons_succ]
  refine ext_take (i := 5) (v := ?_) rfl (by kernel_rfl) (by kernel_rfl) (by kernel_rfl) (fun _ _ _ h => h) (by rfl) ?_ ?_
  rotate_left
  · intro W hW; have hW0 := Ext.trans E0d.out hW; clear hW; go_simp <;> with_reducible rfl
  try simp only [Act.put, List.setIfInBounds_toArray, List.set_cons_zero, List.set_cons_succ]
  refine ext_take (i := 6) (v := ?_) rfl (by kernel_rfl) (by kernel_rfl) (by kernel_rfl) (fun _ _ _ h => h) (by rfl) ?_ ?_
  rotate_left
  · intro W hW; have hW0 := Ext.trans E0d.out hW; clear hW; go_simp <;> with_reducible rfl
  try simp only [Act.put, List.setIfInBounds_toArray, List.set_cons_zero, List.set_cons_succ]
  refine ext_take (i := 7) (v := ?_) rfl (by kernel_rfl) (by kernel_rfl) (by kernel_rfl) (fun _ _ _ h => h) (by rfl) ?_ ?_
  rotate_left
  · intro W hW; have hW0 := Ext.trans E0d.out hW; clear hW; go_simp <;> with_reducible rfl
  try simp only [Act.put, List.setIfInBounds_toArray, List.set_cons_zero, List.set_cons_succ]
  refine ext_take (i := 8) (v := ?_) rfl (by kernel_rfl) (by kernel_rfl) (by kernel_rfl) (fun _ _ _ h => h) (by rfl) ?_ ?_
  rotate_left
  · intro W hW; have hW0 := Ext.trans E0d.out hW; clear hW; go_simp <;> with_reducible rfl
  try simp only [Act.put, List.setIfInBounds_toArray, List.set_cons_zero, List.set_cons_succ]
  refine ext_take (i := 9) (v := ?_) rfl (by kernel_rfl) (by kernel_rfl) (by kernel_rfl) (fun _ _ _ h => h) (by rfl) ?_ ?_
  rotate_left
  · intro W hW; have hW0 := Ext.trans E0d.out hW; clear hW; go_simp <;> with_reducible rfl
  try simp only [Act.put, List.setIfInBounds_toArray, List.set_cons_zero, List.set_cons_succ]
  refine ext_take (i := 10) (v := ?_) rfl (by kernel_rfl) (by kernel_rfl) (by kernel_rfl) (fun _ _ _ h => h) (by rfl) ?_ ?_
  rotate_left
  · intro W hW; have hW0 := Ext.trans E0d.out hW; clear hW; go_simp <;> with_reducible rfl
  try simp only [Act.put, List.setIfInBounds_toArray, List.set_cons_zero, List.set_cons_succ]
  refine ext_take (i := 11) (v := ?_) rfl (by kernel_rfl) (by kernel_rfl) (by kernel_rfl) (fun _ _ _ h => h) (by rfl) ?_ ?_
  rotate_left
  · intro W hW; have hW0 := Ext.trans E0d.out hW; clear hW; go_simp <;> with_reducible rfl
  try simp only [Act.put, List.setIfInBounds_toArray, List.set_cons_zero, List.set_cons_succ]
  refine ext_take (i := 12) (v := ?_) rfl (by kernel_rfl) (by kernel_rfl) (by kernel_rfl) (fun _ _ _ h => h) (by rfl) ?_ ?_
  rotate_left
  · intro W hW; have hW0 := Ext.trans E0d.out hW; clear hW; go_simp <;> with_reducible rfl
  try simp only [Act.put, List.setIfInBounds_toArray, List.set_cons_zero, List.set_cons_succ]
  refine ext_take (i := 13) (v := ?_) rfl (by kernel_rfl) (by kernel_rfl) (by kernel_rfl) (fun _ _ _ h => h) (by rfl) ?_ ?_
  rotate_left
  · intro W hW; have hW0 := Ext.trans E0d.out hW; clear hW; go_simp <;> with_reducible rfl
  try simp only [Act.put, List.setIfInBounds_toArray, List.set_cons_zero, List.set_cons_succ]
  refine ext_take (i := 14) (v := ?_) rfl (by kernel_rfl) (by kernel_rfl) (by kernel_rfl) (fun _ _ _ h => h) (by rfl) ?_ ?_
  rotate_left
  · intro W hW; have hW0 := Ext.trans E0d.out hW; clear hW; go_simp <;> with_reducible rfl
  try simp only [Act.put, List.setIfInBounds_toArray, List.set_cons_zero, List.set_cons_succ]
  refine ext_call (i := 15) rfl (by kernel_rfl) (by rfl) (fun K' hK => ?_)
  go_simp
  (go_at_call 49; (with_reducible refine (CM.out _ E0d.out).mono ?_); rintro e w4 ⟨rfl, hx⟩; refine hK _ _ hx ?_; clear hK)
  have Ew4 := Lib.hid (Ext.trans E0d.out hx)
  clear hx
  try simp only [Act.put, List.setIfInBounds_toArray, List.set_cons_zero, List.set_cons_succ]
  refine ext_take (i := 16) (v := ?_) rfl (by kernel_rfl) (by kernel_rfl) (by kernel_rfl) (fun _ _ _ h => h) (by rfl) ?_ ?_
  rotate_left
  · intro W hW; have hW0 := Ext.trans Ew4.out hW; clear hW; go_simp <;> with_reducible rfl
  try simp only [Act.put, List.setIfInBounds_toArray, List.set_cons_zero, List.set_cons_succ]
  refine ext_take (i := 17) (v := ?_) rfl (by kernel_rfl) (by kernel_rfl) (by kernel_rfl) (fun _ _ _ h => h) (by rfl) ?_ ?_
  rotate_left
  · intro W hW; have hW0 := Ext.trans Ew4.out hW; clear hW; go_simp <;> with_reducible rfl
  try simp only [Act.put, List.setIfInBounds_toArray, List.set_cons_zero, List.set_cons_succ]
  refine ext_skip (i := 18) rfl (by kernel_rfl) (by kernel_rfl) (by kernel_rfl) (fun _ _ _ h => h) (by rfl) ?_
  try simp only [Act.put, List.setIfInBounds_toArray, List.set_cons_zero, List.set_cons_succ]
  refine ext_skip (i := 19) rfl (by kernel_rfl) (by kernel_rfl) (by kernel_rfl) (fun _ _ _ h => h) (by rfl) ?_
  try simp only [Act.put, List.setIfInBounds_toArray, List.set_cons_zero, List.set_cons_succ]
  refine ext_skip (i := 20) rfl (by kernel_rfl) (by kernel_rfl) (by kernel_rfl) (fun _ _ _ h => h) (by rfl) ?_
  try simp only [Act.put, List.setIfInBounds_toArray, List.set_cons_zero, List.set_cons_succ]
  refine ext_skip (i := 21) rfl (by kernel_rfl) (by kernel_rfl) (by kernel_rfl) (fun _ _ _ h => h) (by rfl) ?_
  try simp only [Act.put, List.setIfInBounds_toArray, List.set_cons_zero, List.set_cons_succ]
  refine ext_skip (i := 22) rfl (by kernel_rfl) (by kernel_rfl) (by kernel_rfl) (fun _ _ _ h => h) (by rfl) ?_
  try simp only [Act.put, List.setIfInBounds_toArray, List.set_cons_zero, List.set_cons_succ]
  refine ext_skip (i := 23) rfl (by kernel_rfl) (by kernel_rfl) (by kernel_rfl) (fun _ _ _ h => h) (by rfl) ?_
  try simp only [Act.put, List.setIfInBounds_toArray, List.set_cons_zero, List.set_cons_succ]
  refine ext_skip (i := 24) rfl (by kernel_rfl) (by kernel_rfl) (by kernel_rfl) (fun _ _ _ h => h) (by rfl) ?_
  try simp only [Act.put, List.setIfInBounds_toArray, List.set_cons_zero, List.set_cons_succ]
  refine ext_skip (i := 25) rfl (by kernel_rfl) (by kernel_rfl) (by kernel_rfl) (fun _ _ _ h => h) (by rfl) ?_
  try simp only [Act.put, List.setIfInBounds_toArray, List.set_cons_zero, List.set_cons_succ]
  refine ext_take (i := 26) (v := ?_) rfl (by kernel_rfl) (by kernel_rfl) (by kernel_rfl) (fun _ _ _ h => h) (by rfl) ?_ ?_
  rotate_left
  · intro W hW; have hW0 := Ext.trans Ew4.out hW; clear hW; go_simp <;> with_reducible rfl
  try simp only [Act.put, List.setIfInBounds_toArray, List.set_cons_zero, List.set_cons_succ]
  refine wpAnyH_done (by kernel_rfl) ?_ _
  have EX := Lib.hid Ew4.out
  clear Ew4 E0d E0
  try go_wp2_with fail
  all_goals try go_end0
  all_goals exact hD.out _ _ ⟨rfl, Ext.trans HX0.out EX.out⟩

set_option maxRecDepth 8000 in
set_option maxHeartbeats 8000000 in
theorem xtold_e (base X : Nat) (id n seq ep : Int) (ns : List Int) (c s k i m : Int) (d : ByteArray) (ak tr : Int) (x e2 : Int) (A2 : Option Addr) (cap2 : Nat) (l2 : List Int) (w : World) (H : XAt w X ⟨id, n, seq, ep, ns, some ⟨c, s, k, i, m, d, ak, tr⟩⟩) (hbX : base ≤ X) (hbw : base ≤ w.heap.size) (hl2 : l2.length ≤ 1000) (hs2 : Sl i64 w A2 l2) (hx : seq = x) (h1 : 1 ≤ tr) (hm : mayChainB e2 l2 = true) (he : e2 < ep) :
    Calls Try.prog 29 #[.pointer (some ⟨X, 0, none⟩), .int .i64 x, .agg #[.int .i64 e2, .slice A2 l2.length cap2]] w fun e w' => e = .returned (.tuple #[]) ∧ Ext w w' := by
  refine hide_post fun D hD => ?_
  have HXA := Lib.hid H
  have HBX : Hid (base ≤ X ∧ base ≤ w.heap.size) := ⟨hbX, hbw⟩
  obtain ⟨A, cap, hk, kX0⟩ := H
  obtain ⟨N, hN⟩ : ∃ N, N = ns.length := ⟨_, rfl⟩
  have kX : Blk w X 61 #[.int .i64 id, .int .i64 n, .int .i64 seq, .int .i64 ak, .int .i64 tr, .int .i64 c, .int .i64 s, .int .i64 k, .int .i64 i, .int .i64 m, .string d, .int .i64 ep, .slice A N cap] := by rw [hN]; exact kX0
  obtain ⟨n2, hn2⟩ : ∃ n2, n2 = l2.length := ⟨_, rfl⟩
  rw [← hn2]
  obtain ⟨h0, hh0⟩ : ∃ h0, h0 = w.heap.size := ⟨_, rfl⟩
  obtain ⟨W0, hW0⟩ : ∃ W0, W0 = w.alloc (.cells #[.int .i64 e2, .slice A2 n2 cap2] 59) := ⟨_, rfl⟩
  have kq : Blk W0 h0 59 #[.int .i64 e2, .slice A2 n2 cap2] := by rw [hW0, hh0]; exact Blk.new _ _ _
  have hx0 : Ext w W0 := by rw [hW0]; exact Ext.alloc _ _
  have kX0' := kX.stay hx0
  have fz0 : ∀ V, Ext W0 V → V.cell? ⟨X, 0, none⟩ = some (.int .i64 id) := fun V h => (kX0'.stay h).cell 0
  have fz1 : ∀ V, Ext W0 V → V.cell? ⟨X, 1, none⟩ = some (.int .i64 n) := fun V h => (kX0'.stay h).cell 1
  have fz2 : ∀ V, Ext W0 V → V.cell? ⟨X, 2, none⟩ = some (.int .i64 seq) := fun V h => (kX0'.stay h).cell 2
  have fz3 : ∀ V, Ext W0 V → V.cell? ⟨X, 3, none⟩ = some (.int .i64 ak) := fun V h => (kX0'.stay h).cell 3
  have fz4 : ∀ V, Ext W0 V → V.cell? ⟨X, 4, none⟩ = some (.int .i64 tr) := fun V h => (kX0'.stay h).cell 4
  have fz5 : ∀ V, Ext W0 V → V.cell? ⟨X, 5, none⟩ = some (.int .i64 c) := fun V h => (kX0'.stay h).cell 5
  have fz6 : ∀ V, Ext W0 V → V.cell? ⟨X, 6, none⟩ = some (.int .i64 s) := fun V h => (kX0'.stay h).cell 6
  have fz7 : ∀ V, Ext W0 V → V.cell? ⟨X, 7, none⟩ = some (.int .i64 k) := fun V h => (kX0'.stay h).cell 7
  have fz8 : ∀ V, Ext W0 V → V.cell? ⟨X, 8, none⟩ = some (.int .i64 i) := fun V h => (kX0'.stay h).cell 8
  have fz9 : ∀ V, Ext W0 V → V.cell? ⟨X, 9, none⟩ = some (.int .i64 m) := fun V h => (kX0'.stay h).cell 9
  have fz10 : ∀ V, Ext W0 V → V.cell? ⟨X, 10, none⟩ = some (.string d) := fun V h => (kX0'.stay h).cell 10
  have fz11 : ∀ V, Ext W0 V → V.cell? ⟨X, 11, none⟩ = some (.int .i64 ep) := fun V h => (kX0'.stay h).cell 11
  have fz12 : ∀ V, Ext W0 V → V.cell? ⟨X, 12, none⟩ = some (.slice A N cap) := fun V h => (kX0'.stay h).cell 12
  have fq0 : ∀ V, Ext W0 V → V.cell? ⟨h0, 0, none⟩ = some (.int .i64 e2) := fun V h => (kq.stay h).cell 0
  have fq1 : ∀ V, Ext W0 V → V.cell? ⟨h0, 1, none⟩ = some (.slice A2 n2 cap2) := fun V h => (kq.stay h).cell 1
  have htp : (0 : Int) < tr := by omega
  subst hx
  have CM : Hid (∀ V, Ext W0 V → Calls Try.prog 49 #[.agg #[.int .i64 e2, .slice A2 n2 cap2]] V fun e w' => e = .returned (.bool true) ∧ Ext V w') := fun V hV => by rw [← hm, hn2]; exact refMayChain_any e2 A2 cap2 l2 V (by omega) (hs2.stay (Ext.trans hx0 hV))
  have HW0 := Lib.hid (And.intro hW0 hh0)
  have HX0 := Lib.hid hx0
  have HKX := Lib.hid kX0'
  have HKQ := Lib.hid kq
  have HN := Lib.hid hN
  have HN2 : Hid (n2 = l2.length ∧ l2.length ≤ 1000) := ⟨hn2, hl2⟩
  have HH0 : Hid (h0 = w.heap.size ∧ X < w.heap.size) := ⟨hh0, kX.lt⟩
  have HSL : Hid (∀ V, Ext W0 V → Sl i64 V A2 l2) := fun V hV => hs2.stay (Ext.trans hx0 hV)
  clear kX kX0 kX0' kq hk hN HXA hbX hbw hn2 hl2 hs2 hW0 hx0 hh0 h1  hm
  have E0 : Hid (Ext W0 W0) := Ext.refl _
  go_enter Try.func29, Try.ntmps29
  go_wp2_with fail
  rw [← HW0.out.1, ← HW0.out.2]
  refine ext_begin (by kernel_rfl) ?_
  have E0d := Lib.hid (Ext.drewR E0.out)
  refine ext_take (i := 0) (v := ?_) rfl (by kernel_rfl) (by kernel_rfl) (by kernel_rfl) (fun _ _ _ h => h) (by rfl) ?_ ?_
  rotate_left
  · intro W hW; have hW0 := Ext.trans E0d.out hW; clear hW; go_simp <;> with_reducible rfl
  try simp only [Act.put, List.setIfInBounds_toArray, List.set_cons_zero, List.set_cons_succ]
  refine ext_take (i := 1) (v := ?_) rfl (by kernel_rfl) (by kernel_rfl) (by kernel_rfl) (fun _ _ _ h => h) (by rfl) ?_ ?_
  rotate_left
  · intro W hW; have hW0 := Ext.trans E0d.out hW; clear hW; go_simp <;> with_reducible rfl
  try simp only [Act.put, List.setIfInBounds_toArray, List.set_cons_zero, List.set_cons_succ]
  refine ext_take (i := 2) (v := ?_) rfl (by kernel_rfl) (by kernel_rfl) (by kernel_rfl) (fun _ _ _ h => h) (by rfl) ?_ ?_
  rotate_left
  · intro W hW; have hW0 := Ext.trans E0d.out hW; clear hW; go_simp <;> with_reducible rfl
  try simp only [Act.put, List.setIfInBounds_toArray, List.set_cons_zero, List.set_cons_succ]
  refine ext_take (i := 3) (v := ?_) rfl (by kernel_rfl) (by kernel_rfl) (by kernel_rfl) (fun _ _ _ h => h) (by rfl) ?_ ?_
  rotate_left
  · intro W hW; have hW0 := Ext.trans E0d.out hW; clear hW; go_simp <;> with_reducible rfl
  try simp only [Act.put, List.setIfInBounds_toArray, List.set_cons_zero, List.set_cons_succ]
  refine ext_take (i := 4) (v := .bool true) rfl (by kernel_rfl) (by kernel_rfl) (by kernel_rfl) (fun _ _ _ h => h) (by rfl) ?_ ?_
  · intro W hW; have hW0 := Ext.trans E0d.out hW; clear hW; go_simp; all_goals (first | done | omega | (simp; omega))
  try simp only [Act.put, List.setIfInBounds_toArray, List.set_cons_zero, List.set_cons_succ]
  refine ext_take (i := 5) (v := ?_) rfl (by kernel_rfl) (by kernel_rfl) (by kernel_rfl) (fun _ _ _ h => h) (by rfl) ?_ ?_
  rotate_left
  · intro W hW; have hW0 := Ext.trans E0d.out hW; clear hW; go_simp <;> with_reducible rfl
  try simp only [Act.put, List.setIfInBounds_toArray, List.set_cons_zero, List.set_cons_succ]
  refine ext_take (i := 6) (v := ?_) rfl (by kernel_rfl) (by kernel_rfl) (by kernel_rfl) (fun _ _ _ h => h) (by rfl) ?_ ?_
  rotate_left
  · intro W hW; have hW0 := Ext.trans E0d.out hW; clear hW; go_simp <;> with_reducible rfl
  try simp only [Act.put, List.setIfInBounds_toArray, List.set_cons_zero, List.set_cons_succ]
  refine ext_take (i := 7) (v := ?_) rfl (by kernel_rfl) (by kernel_rfl) (by kernel_rfl) (fun _ _ _ h => h) (by rfl) ?_ ?_
  rotate_left
  · intro W hW; have hW0 := Ext.trans E0d.out hW; clear hW; go_simp <;> with_reducible rfl
  try simp only [Act.put, List.setIfInBounds_toArray, List.set_cons_zero, List.set_cons_succ]
  refine ext_take (i := 8) (v := ?_) rfl (by kernel_rfl) (by kernel_rfl) (by kernel_rfl) (fun _ _ _ h => h) (by rfl) ?_ ?_
  rotate_left
  · intro W hW; have hW0 := Ext.trans E0d.out hW; clear hW; go_simp <;> with_reducible rfl
  try simp only [Act.put, List.setIfInBounds_toArray, List.set_cons_zero, List.set_cons_succ]
  refine ext_take (i := 9) (v := ?_) rfl (by kernel_rfl) (by kernel_rfl) (by kernel_rfl) (fun _ _ _ h => h) (by rfl) ?_ ?_
  rotate_left
  · intro W hW; have hW0 := Ext.trans E0d.out hW; clear hW; go_simp <;> with_reducible rfl
  try simp only [Act.put, List.setIfInBounds_toArray, List.set_cons_zero, List.set_cons_succ]
  refine ext_take (i := 10) (v := ?_) rfl (by kernel_rfl) (by kernel_rfl) (by kernel_rfl) (fun _ _ _ h => h) (by rfl) ?_ ?_
  rotate_left
  · intro W hW; have hW0 := Ext.trans E0d.out hW; clear hW; go_simp <;> with_reducible rfl
  try simp only [Act.put, List.setIfInBounds_toArray, List.set_cons_zero, List.set_cons_succ]
  refine ext_take (i := 11) (v := ?_) rfl (by kernel_rfl) (by kernel_rfl) (by kernel_rfl) (fun _ _ _ h => h) (by rfl) ?_ ?_
  rotate_left
  · intro W hW; have hW0 := Ext.trans E0d.out hW; clear hW; go_simp <;> with_reducible rfl
  try simp only [Act.put, List.setIfInBounds_toArray, List.set_cons_zero, List.set_cons_succ]
  refine ext_take (i := 12) (v := ?_) rfl (by kernel_rfl) (by kernel_rfl) (by kernel_rfl) (fun _ _ _ h => h) (by rfl) ?_ ?_
  rotate_left
  · intro W hW; have hW0 := Ext.trans E0d.out hW; clear hW; go_simp <;> with_reducible rfl
  try simp only [Act.put, List.setIfInBounds_toArray, List.set_cons_zero, List.set_cons_succ]
  refine ext_take (i := 13) (v := ?_) rfl (by kernel_rfl) (by kernel_rfl) (by kernel_rfl) (fun _ _ _ h => h) (by rfl) ?_ ?_
  rotate_left
  · intro W hW; have hW0 := Ext.trans E0d.out hW; clear hW; go_simp <;> with_reducible rfl
  try simp only [Act.put, List.setIfInBounds_toArray, List.set_cons_zero, List.set_cons_succ]
  refine ext_take (i := 14) (v := ?_) rfl (by kernel_rfl) (by kernel_rfl) (by kernel_rfl) (fun _ _ _ h => h) (by rfl) ?_ ?_
  rotate_left
  · intro W hW; have hW0 := Ext.trans E0d.out hW; clear hW; go_simp <;> with_reducible rfl
  try simp only [Act.put, List.setIfInBounds_toArray, List.set_cons_zero, List.set_cons_succ]
  refine ext_call (i := 15) rfl (by kernel_rfl) (by rfl) (fun K' hK => ?_)
  go_simp
  (go_at_call 49; (with_reducible refine (CM.out _ E0d.out).mono ?_); rintro e w4 ⟨rfl, hx⟩; refine hK _ _ hx ?_; clear hK)
  have Ew4 := Lib.hid (Ext.trans E0d.out hx)
  clear hx
  try simp only [Act.put, List.setIfInBounds_toArray, List.set_cons_zero, List.set_cons_succ]
  refine ext_take (i := 16) (v := ?_) rfl (by kernel_rfl) (by kernel_rfl) (by kernel_rfl) (fun _ _ _ h => h) (by rfl) ?_ ?_
  rotate_left
  · intro W hW; have hW0 := Ext.trans Ew4.out hW; clear hW; go_simp <;> with_reducible rfl
  try simp only [Act.put, List.setIfInBounds_toArray, List.set_cons_zero, List.set_cons_succ]
  refine ext_take (i := 17) (v := ?_) rfl (by kernel_rfl) (by kernel_rfl) (by kernel_rfl) (fun _ _ _ h => h) (by rfl) ?_ ?_
  rotate_left
  · intro W hW; have hW0 := Ext.trans Ew4.out hW; clear hW; go_simp <;> with_reducible rfl
  try simp only [Act.put, List.setIfInBounds_toArray, List.set_cons_zero, List.set_cons_succ]
  refine ext_take (i := 18) (v := ?_) rfl (by kernel_rfl) (by kernel_rfl) (by kernel_rfl) (fun _ _ _ h => h) (by rfl) ?_ ?_
  rotate_left
  · intro W hW; have hW0 := Ext.trans Ew4.out hW; clear hW; go_simp <;> with_reducible rfl
  try simp only [Act.put, List.setIfInBounds_toArray, List.set_cons_zero, List.set_cons_succ]
  refine ext_take (i := 19) (v := ?_) rfl (by kernel_rfl) (by kernel_rfl) (by kernel_rfl) (fun _ _ _ h => h) (by rfl) ?_ ?_
  rotate_left
  · intro W hW; have hW0 := Ext.trans Ew4.out hW; clear hW; go_simp <;> with_reducible rfl
  try simp only [Act.put, List.setIfInBounds_toArray, List.set_cons_zero, List.set_cons_succ]
  refine ext_take (i := 20) (v := ?_) rfl (by kernel_rfl) (by kernel_rfl) (by kernel_rfl) (fun _ _ _ h => h) (by rfl) ?_ ?_
  rotate_left
  · intro W hW; have hW0 := Ext.trans Ew4.out hW; clear hW; go_simp <;> with_reducible rfl
  try simp only [Act.put, List.setIfInBounds_toArray, List.set_cons_zero, List.set_cons_succ]
  refine ext_take (i := 21) (v := ?_) rfl (by kernel_rfl) (by kernel_rfl) (by kernel_rfl) (fun _ _ _ h => h) (by rfl) ?_ ?_
  rotate_left
  · intro W hW; have hW0 := Ext.trans Ew4.out hW; clear hW; go_simp <;> with_reducible rfl
  try simp only [Act.put, List.setIfInBounds_toArray, List.set_cons_zero, List.set_cons_succ]
  refine ext_take (i := 22) (v := ?_) rfl (by kernel_rfl) (by kernel_rfl) (by kernel_rfl) (fun _ _ _ h => h) (by rfl) ?_ ?_
  rotate_left
  · intro W hW; have hW0 := Ext.trans Ew4.out hW; clear hW; go_simp <;> with_reducible rfl
  try simp only [Act.put, List.setIfInBounds_toArray, List.set_cons_zero, List.set_cons_succ]
  refine ext_take (i := 23) (v := ?_) rfl (by kernel_rfl) (by kernel_rfl) (by kernel_rfl) (fun _ _ _ h => h) (by rfl) ?_ ?_
  rotate_left
  · intro W hW; have hW0 := Ext.trans Ew4.out hW; clear hW; go_simp <;> with_reducible rfl
  try simp only [Act.put, List.setIfInBounds_toArray, List.set_cons_zero, List.set_cons_succ]
  refine ext_take (i := 24) (v := ?_) rfl (by kernel_rfl) (by kernel_rfl) (by kernel_rfl) (fun _ _ _ h => h) (by rfl) ?_ ?_
  rotate_left
  · intro W hW; have hW0 := Ext.trans Ew4.out hW; clear hW; go_simp <;> with_reducible rfl
  try simp only [Act.put, List.setIfInBounds_toArray, List.set_cons_zero, List.set_cons_succ]
  refine ext_take (i := 25) (v := .bool false) rfl (by kernel_rfl) (by kernel_rfl) (by kernel_rfl) (fun _ _ _ h => h) (by rfl) ?_ ?_
  · intro W hW; have hW0 := Ext.trans Ew4.out hW; clear hW; go_simp; all_goals (first | done | omega | (simp; omega))
  try simp only [Act.put, List.setIfInBounds_toArray, List.set_cons_zero, List.set_cons_succ]
  refine ext_take (i := 26) (v := ?_) rfl (by kernel_rfl) (by kernel_rfl) (by kernel_rfl) (fun _ _ _ h => h) (by rfl) ?_ ?_
  rotate_left
  · intro W hW; have hW0 := Ext.trans Ew4.out hW; clear hW; go_simp <;> with_reducible rfl
  try simp only [Act.put, List.setIfInBounds_toArray, List.set_cons_zero, List.set_cons_succ]
  refine wpAnyH_done (by kernel_rfl) ?_ _
  have EX := Lib.hid Ew4.out
  clear Ew4 E0d E0
  try go_wp2_with fail
  all_goals try go_end0
  all_goals exact hD.out _ _ ⟨rfl, Ext.trans HX0.out EX.out⟩

set_option maxRecDepth 8000 in
set_option maxHeartbeats 8000000 in
theorem xtold_y (base X : Nat) (id n seq ep : Int) (ns : List Int) (c s k i m : Int) (d : ByteArray) (ak tr : Int) (x e2 : Int) (A2 : Option Addr) (cap2 : Nat) (l2 : List Int) (w : World) (H : XAt w X ⟨id, n, seq, ep, ns, some ⟨c, s, k, i, m, d, ak, tr⟩⟩) (hbX : base ≤ X) (hbw : base ≤ w.heap.size) (hl2 : l2.length ≤ 1000) (hs2 : Sl i64 w A2 l2) (hx : seq = x) (h1 : 1 ≤ tr) (hm : mayChainB e2 l2 = true) (he : ep ≤ e2) :
    Calls Try.prog 29 #[.pointer (some ⟨X, 0, none⟩), .int .i64 x, .agg #[.int .i64 e2, .slice A2 l2.length cap2]] w fun e w' => e = .returned (.tuple #[]) ∧ XAt w' X ⟨id, n, seq, e2, l2, some ⟨c, s, k, i, m, d, ak, tr⟩⟩ ∧ Kx base w w' := by
  refine hide_post fun D hD => ?_
  have HXA := Lib.hid H
  have HBX : Hid (base ≤ X ∧ base ≤ w.heap.size) := ⟨hbX, hbw⟩
  obtain ⟨A, cap, hk, kX0⟩ := H
  obtain ⟨N, hN⟩ : ∃ N, N = ns.length := ⟨_, rfl⟩
  have kX : Blk w X 61 #[.int .i64 id, .int .i64 n, .int .i64 seq, .int .i64 ak, .int .i64 tr, .int .i64 c, .int .i64 s, .int .i64 k, .int .i64 i, .int .i64 m, .string d, .int .i64 ep, .slice A N cap] := by rw [hN]; exact kX0
  obtain ⟨n2, hn2⟩ : ∃ n2, n2 = l2.length := ⟨_, rfl⟩
  rw [← hn2]
  obtain ⟨h0, hh0⟩ : ∃ h0, h0 = w.heap.size := ⟨_, rfl⟩
  obtain ⟨W0, hW0⟩ : ∃ W0, W0 = w.alloc (.cells #[.int .i64 e2, .slice A2 n2 cap2] 59) := ⟨_, rfl⟩
  have kq : Blk W0 h0 59 #[.int .i64 e2, .slice A2 n2 cap2] := by rw [hW0, hh0]; exact Blk.new _ _ _
  have hx0 : Ext w W0 := by rw [hW0]; exact Ext.alloc _ _
  have kX0' := kX.stay hx0
  have fz0 : ∀ V, Ext W0 V → V.cell? ⟨X, 0, none⟩ = some (.int .i64 id) := fun V h => (kX0'.stay h).cell 0
  have fz1 : ∀ V, Ext W0 V → V.cell? ⟨X, 1, none⟩ = some (.int .i64 n) := fun V h => (kX0'.stay h).cell 1
  have fz2 : ∀ V, Ext W0 V → V.cell? ⟨X, 2, none⟩ = some (.int .i64 seq) := fun V h => (kX0'.stay h).cell 2
  have fz3 : ∀ V, Ext W0 V → V.cell? ⟨X, 3, none⟩ = some (.int .i64 ak) := fun V h => (kX0'.stay h).cell 3
  have fz4 : ∀ V, Ext W0 V → V.cell? ⟨X, 4, none⟩ = some (.int .i64 tr) := fun V h => (kX0'.stay h).cell 4
  have fz5 : ∀ V, Ext W0 V → V.cell? ⟨X, 5, none⟩ = some (.int .i64 c) := fun V h => (kX0'.stay h).cell 5
  have fz6 : ∀ V, Ext W0 V → V.cell? ⟨X, 6, none⟩ = some (.int .i64 s) := fun V h => (kX0'.stay h).cell 6
  have fz7 : ∀ V, Ext W0 V → V.cell? ⟨X, 7, none⟩ = some (.int .i64 k) := fun V h => (kX0'.stay h).cell 7
  have fz8 : ∀ V, Ext W0 V → V.cell? ⟨X, 8, none⟩ = some (.int .i64 i) := fun V h => (kX0'.stay h).cell 8
  have fz9 : ∀ V, Ext W0 V → V.cell? ⟨X, 9, none⟩ = some (.int .i64 m) := fun V h => (kX0'.stay h).cell 9
  have fz10 : ∀ V, Ext W0 V → V.cell? ⟨X, 10, none⟩ = some (.string d) := fun V h => (kX0'.stay h).cell 10
  have fz11 : ∀ V, Ext W0 V → V.cell? ⟨X, 11, none⟩ = some (.int .i64 ep) := fun V h => (kX0'.stay h).cell 11
  have fz12 : ∀ V, Ext W0 V → V.cell? ⟨X, 12, none⟩ = some (.slice A N cap) := fun V h => (kX0'.stay h).cell 12
  have fq0 : ∀ V, Ext W0 V → V.cell? ⟨h0, 0, none⟩ = some (.int .i64 e2) := fun V h => (kq.stay h).cell 0
  have fq1 : ∀ V, Ext W0 V → V.cell? ⟨h0, 1, none⟩ = some (.slice A2 n2 cap2) := fun V h => (kq.stay h).cell 1
  have htp : (0 : Int) < tr := by omega
  subst hx
  have CM : Hid (∀ V, Ext W0 V → Calls Try.prog 49 #[.agg #[.int .i64 e2, .slice A2 n2 cap2]] V fun e w' => e = .returned (.bool true) ∧ Ext V w') := fun V hV => by rw [← hm, hn2]; exact refMayChain_any e2 A2 cap2 l2 V (by omega) (hs2.stay (Ext.trans hx0 hV))
  have HW0 := Lib.hid (And.intro hW0 hh0)
  have HX0 := Lib.hid hx0
  have HKX := Lib.hid kX0'
  have HKQ := Lib.hid kq
  have HN := Lib.hid hN
  have HN2 : Hid (n2 = l2.length ∧ l2.length ≤ 1000) := ⟨hn2, hl2⟩
  have HH0 : Hid (h0 = w.heap.size ∧ X < w.heap.size) := ⟨hh0, kX.lt⟩
  have HSL : Hid (∀ V, Ext W0 V → Sl i64 V A2 l2) := fun V hV => hs2.stay (Ext.trans hx0 hV)
  clear kX kX0 kX0' kq hk hN HXA hbX hbw hn2 hl2 hs2 hW0 hx0 hh0 h1  hm
  have E0 : Hid (Ext W0 W0) := Ext.refl _
  go_enter Try.func29, Try.ntmps29
  go_wp2_with fail
  rw [← HW0.out.1, ← HW0.out.2]
  refine ext_begin (by kernel_rfl) ?_
  have E0d := Lib.hid (Ext.drewR E0.out)
  refine ext_take (i := 0) (v := ?_) rfl (by kernel_rfl) (by kernel_rfl) (by kernel_rfl) (fun _ _ _ h => h) (by rfl) ?_ ?_
  rotate_left
  · intro W hW; have hW0 := Ext.trans E0d.out hW; clear hW; go_simp <;> with_reducible rfl
  try simp only [Act.put, List.setIfInBounds_toArray, List.set_cons_zero, List.set_cons_succ]
  refine ext_take (i := 1) (v := ?_) rfl (by kernel_rfl) (by kernel_rfl) (by kernel_rfl) (fun _ _ _ h => h) (by rfl) ?_ ?_
  rotate_left
  · intro W hW; have hW0 := Ext.trans E0d.out hW; clear hW; go_simp <;> with_reducible rfl
  try simp only [Act.put, List.setIfInBounds_toArray, List.set_cons_zero, List.set_cons_succ]
  refine ext_take (i := 2) (v := ?_) rfl (by kernel_rfl) (by kernel_rfl) (by kernel_rfl) (fun _ _ _ h => h) (by rfl) ?_ ?_
  rotate_left
  · intro W hW; have hW0 := Ext.trans E0d.out hW; clear hW; go_simp <;> with_reducible rfl
  try simp only [Act.put, List.setIfInBounds_toArray, List.set_cons_zero, List.set_cons_succ]
  refine ext_take (i := 3) (v := ?_) rfl (by kernel_rfl) (by kernel_rfl) (by kernel_rfl) (fun _ _ _ h => h) (by rfl) ?_ ?_
  rotate_left
  · intro W hW; have hW0 := Ext.trans E0d.out hW; clear hW; go_simp <;> with_reducible rfl
  try simp only [Act.put, List.setIfInBounds_toArray, List.set_cons_zero, List.set_cons_succ]
  refine ext_take (i := 4) (v := .bool true) rfl (by kernel_rfl) (by kernel_rfl) (by kernel_rfl) (fun _ _ _ h => h) (by rfl) ?_ ?_
  · intro W hW; have hW0 := Ext.trans E0d.out hW; clear hW; go_simp; all_goals (first | done | omega | (simp; omega))
  try simp only [Act.put, List.setIfInBounds_toArray, List.set_cons_zero, List.set_cons_succ]
  refine ext_take (i := 5) (v := ?_) rfl (by kernel_rfl) (by kernel_rfl) (by kernel_rfl) (fun _ _ _ h => h) (by rfl) ?_ ?_
  rotate_left
  · intro W hW; have hW0 := Ext.trans E0d.out hW; clear hW; go_simp <;> with_reducible rfl
  try simp only [Act.put, List.setIfInBounds_toArray, List.set_cons_zero, List.set_cons_succ]
  refine ext_take (i := 6) (v := ?_) rfl (by kernel_rfl) (by kernel_rfl) (by kernel_rfl) (fun _ _ _ h => h) (by rfl) ?_ ?_
  rotate_left
  · intro W hW; have hW0 := Ext.trans E0d.out hW; clear hW; go_simp <;> with_reducible rfl
  try simp only [Act.put, List.setIfInBounds_toArray, List.set_cons_zero, List.set_cons_succ]
  refine ext_take (i := 7) (v := ?_) rfl (by kernel_rfl) (by kernel_rfl) (by kernel_rfl) (fun _ _ _ h => h) (by rfl) ?_ ?_
  rotate_left
  · intro W hW; have hW0 := Ext.trans E0d.out hW; clear hW; go_simp <;> with_reducible rfl
  try simp only [Act.put, List.setIfInBounds_toArray, List.set_cons_zero, List.set_cons_succ]
  refine ext_take (i := 8) (v := ?_) rfl (by kernel_rfl) (by kernel_rfl) (by kernel_rfl) (fun _ _ _ h => h) (by rfl) ?_ ?_
  rotate_left
  · intro W hW; have hW0 := Ext.trans E0d.out hW; clear hW; go_simp <;> with_reducible rfl
  try simp only [Act.put, List.setIfInBounds_toArray, List.set_cons_zero, List.set_cons_succ]
  refine ext_take (i := 9) (v := ?_) rfl (by kernel_rfl) (by kernel_rfl) (by kernel_rfl) (fun _ _ _ h => h) (by rfl) ?_ ?_
  rotate_left
  · intro W hW; have hW0 := Ext.trans E0d.out hW; clear hW; go_simp <;> with_reducible rfl
  try simp only [Act.put, List.setIfInBounds_toArray, List.set_cons_zero, List.set_cons_succ]
  refine ext_take (i := 10) (v := ?_) rfl (by kernel_rfl) (by kernel_rfl) (by kernel_rfl) (fun _ _ _ h => h) (by rfl) ?_ ?_
  rotate_left
  · intro W hW; have hW0 := Ext.trans E0d.out hW; clear hW; go_simp <;> with_reducible rfl
  try simp only [Act.put, List.setIfInBounds_toArray, List.set_cons_zero, List.set_cons_succ]
  refine ext_take (i := 11) (v := ?_) rfl (by kernel_rfl) (by kernel_rfl) (by kernel_rfl) (fun _ _ _ h => h) (by rfl) ?_ ?_
  rotate_left
  · intro W hW; have hW0 := Ext.trans E0d.out hW; clear hW; go_simp <;> with_reducible rfl
  try simp only [Act.put, List.setIfInBounds_toArray, List.set_cons_zero, List.set_cons_succ]
  refine ext_take (i := 12) (v := ?_) rfl (by kernel_rfl) (by kernel_rfl) (by kernel_rfl) (fun _ _ _ h => h) (by rfl) ?_ ?_
  rotate_left
  · intro W hW; have hW0 := Ext.trans E0d.out hW; clear hW; go_simp <;> with_reducible rfl
  try simp only [Act.put, List.setIfInBounds_toArray, List.set_cons_zero, List.set_cons_succ]
  refine ext_take (i := 13) (v := ?_) rfl (by kernel_rfl) (by kernel_rfl) (by kernel_rfl) (fun _ _ _ h => h) (by rfl) ?_ ?_
  rotate_left
  · intro W hW; have hW0 := Ext.trans E0d.out hW; clear hW; go_simp <;> with_reducible rfl
  try simp only [Act.put, List.setIfInBounds_toArray, List.set_cons_zero, List.set_cons_succ]
  refine ext_take (i := 14) (v := ?_) rfl (by kernel_rfl) (by kernel_rfl) (by kernel_rfl) (fun _ _ _ h => h) (by rfl) ?_ ?_
  rotate_left
  · intro W hW; have hW0 := Ext.trans E0d.out hW; clear hW; go_simp <;> with_reducible rfl
  try simp only [Act.put, List.setIfInBounds_toArray, List.set_cons_zero, List.set_cons_succ]
  refine ext_call (i := 15) rfl (by kernel_rfl) (by rfl) (fun K' hK => ?_)
  go_simp
  (go_at_call 49; (with_reducible refine (CM.out _ E0d.out).mono ?_); rintro e w4 ⟨rfl, hx⟩; refine hK _ _ hx ?_; clear hK)
  have Ew4 := Lib.hid (Ext.trans E0d.out hx)
  clear hx
  try simp only [Act.put, List.setIfInBounds_toArray, List.set_cons_zero, List.set_cons_succ]
  refine ext_take (i := 16) (v := ?_) rfl (by kernel_rfl) (by kernel_rfl) (by kernel_rfl) (fun _ _ _ h => h) (by rfl) ?_ ?_
  rotate_left
  · intro W hW; have hW0 := Ext.trans Ew4.out hW; clear hW; go_simp <;> with_reducible rfl
  try simp only [Act.put, List.setIfInBounds_toArray, List.set_cons_zero, List.set_cons_succ]
  refine ext_take (i := 17) (v := ?_) rfl (by kernel_rfl) (by kernel_rfl) (by kernel_rfl) (fun _ _ _ h => h) (by rfl) ?_ ?_
  rotate_left
  · intro W hW; have hW0 := Ext.trans Ew4.out hW; clear hW; go_simp <;> with_reducible rfl
  try simp only [Act.put, List.setIfInBounds_toArray, List.set_cons_zero, List.set_cons_succ]
  refine ext_take (i := 18) (v := ?_) rfl (by kernel_rfl) (by kernel_rfl) (by kernel_rfl) (fun _ _ _ h => h) (by rfl) ?_ ?_
  rotate_left
  · intro W hW; have hW0 := Ext.trans Ew4.out hW; clear hW; go_simp <;> with_reducible rfl
  try simp only [Act.put, List.setIfInBounds_toArray, List.set_cons_zero, List.set_cons_succ]
  refine ext_take (i := 19) (v := ?_) rfl (by kernel_rfl) (by kernel_rfl) (by kernel_rfl) (fun _ _ _ h => h) (by rfl) ?_ ?_
  rotate_left
  · intro W hW; have hW0 := Ext.trans Ew4.out hW; clear hW; go_simp <;> with_reducible rfl
  try simp only [Act.put, List.setIfInBounds_toArray, List.set_cons_zero, List.set_cons_succ]
  refine ext_take (i := 20) (v := ?_) rfl (by kernel_rfl) (by kernel_rfl) (by kernel_rfl) (fun _ _ _ h => h) (by rfl) ?_ ?_
  rotate_left
  · intro W hW; have hW0 := Ext.trans Ew4.out hW; clear hW; go_simp <;> with_reducible rfl
  try simp only [Act.put, List.setIfInBounds_toArray, List.set_cons_zero, List.set_cons_succ]
  refine ext_take (i := 21) (v := ?_) rfl (by kernel_rfl) (by kernel_rfl) (by kernel_rfl) (fun _ _ _ h => h) (by rfl) ?_ ?_
  rotate_left
  · intro W hW; have hW0 := Ext.trans Ew4.out hW; clear hW; go_simp <;> with_reducible rfl
  try simp only [Act.put, List.setIfInBounds_toArray, List.set_cons_zero, List.set_cons_succ]
  refine ext_take (i := 22) (v := ?_) rfl (by kernel_rfl) (by kernel_rfl) (by kernel_rfl) (fun _ _ _ h => h) (by rfl) ?_ ?_
  rotate_left
  · intro W hW; have hW0 := Ext.trans Ew4.out hW; clear hW; go_simp <;> with_reducible rfl
  try simp only [Act.put, List.setIfInBounds_toArray, List.set_cons_zero, List.set_cons_succ]
  refine ext_take (i := 23) (v := ?_) rfl (by kernel_rfl) (by kernel_rfl) (by kernel_rfl) (fun _ _ _ h => h) (by rfl) ?_ ?_
  rotate_left
  · intro W hW; have hW0 := Ext.trans Ew4.out hW; clear hW; go_simp <;> with_reducible rfl
  try simp only [Act.put, List.setIfInBounds_toArray, List.set_cons_zero, List.set_cons_succ]
  refine ext_take (i := 24) (v := ?_) rfl (by kernel_rfl) (by kernel_rfl) (by kernel_rfl) (fun _ _ _ h => h) (by rfl) ?_ ?_
  rotate_left
  · intro W hW; have hW0 := Ext.trans Ew4.out hW; clear hW; go_simp <;> with_reducible rfl
  try simp only [Act.put, List.setIfInBounds_toArray, List.set_cons_zero, List.set_cons_succ]
  refine ext_take (i := 25) (v := .bool true) rfl (by kernel_rfl) (by kernel_rfl) (by kernel_rfl) (fun _ _ _ h => h) (by rfl) ?_ ?_
  · intro W hW; have hW0 := Ext.trans Ew4.out hW; clear hW; go_simp; all_goals (first | done | omega | (simp; omega))
  try simp only [Act.put, List.setIfInBounds_toArray, List.set_cons_zero, List.set_cons_succ]
  refine ext_take (i := 26) (v := ?_) rfl (by kernel_rfl) (by kernel_rfl) (by kernel_rfl) (fun _ _ _ h => h) (by rfl) ?_ ?_
  rotate_left
  · intro W hW; have hW0 := Ext.trans Ew4.out hW; clear hW; go_simp <;> with_reducible rfl
  try simp only [Act.put, List.setIfInBounds_toArray, List.set_cons_zero, List.set_cons_succ]
  refine wpAnyH_done (by kernel_rfl) ?_ _
  have EX := Lib.hid Ew4.out
  clear Ew4 E0d E0
  obtain ⟨zb, hzb⟩ : ∃ zb, zb = w4.heap.size := ⟨_, rfl⟩
  have hsz := EX.out.size
  have hszw := HX0.out.size
  have hq4 := HKQ.out.lt
  have HZB : Hid (zb = w4.heap.size ∧ h0 < zb ∧ X ≠ h0 ∧ X < zb) := ⟨hzb, by omega, by have := HH0.out; omega, by have := HH0.out; omega⟩
  have kq4 := HKQ.out.stay EX.out
  have fr0 : ∀ V, Frm (fun k => k = X ∨ zb ≤ k) w4 V → V.cell? ⟨h0, 0, none⟩ = some (.int .i64 e2) := fun V h => (kq4.frm h (show ¬ (h0 = X ∨ zb ≤ h0) by have := HZB.out; omega)).cell 0
  have fr1 : ∀ V, Frm (fun k => k = X ∨ zb ≤ k) w4 V → V.cell? ⟨h0, 1, none⟩ = some (.slice A2 n2 cap2) := fun V h => (kq4.frm h (show ¬ (h0 = X ∨ zb ≤ h0) by have := HZB.out; omega)).cell 1
  have HX4 : Hid (Blk w4 X 61 #[.int .i64 id, .int .i64 n, .int .i64 seq, .int .i64 ak, .int .i64 tr, .int .i64 c, .int .i64 s, .int .i64 k, .int .i64 i, .int .i64 m, .string d, .int .i64 ep, .slice A N cap]) := HKX.out.stay EX.out
  have EF : Hid (Frm (fun k => k = X ∨ zb ≤ k) w4 w4.drew) := (Frm.refl _ _).drew
  clear fz0 fz1 fz2 fz3 fz4 fz5 fz6 fz7 fz8 fz9 fz10 fz11 fz12 fq0 fq1 hzb hsz hszw hq4 kq4
  go_wp2_with fail
  refine rz_begin (fun k => k = X ∨ zb ≤ k) [] (by kernel_rfl) ?_
  refine rz_take [8, 9, 10] (i := 0) (v := ?_) rfl (by kernel_rfl) (by kernel_rfl) (by kernel_rfl) (by kernel_rfl) (by kernel_rfl) (by kernel_rfl) (fun _ _ _ h => h) (by rfl) ?_ ?_
  rotate_left
  · intro W hW; have hW0 := Frm.tr EF.out hW; clear hW; go_simp <;> with_reducible rfl
  try simp only [Act.put, List.setIfInBounds_toArray, List.set_cons_zero, List.set_cons_succ]
  refine rz_take [2, 7, 8, 9, 10] (i := 1) (v := ?_) rfl (by kernel_rfl) (by kernel_rfl) (by kernel_rfl) (by kernel_rfl) (by kernel_rfl) (by kernel_rfl) (fun _ _ _ h => h) (by rfl) ?_ ?_
  rotate_left
  · intro W hW; have hW0 := Frm.tr EF.out hW; clear hW; go_simp <;> with_reducible rfl
  try simp only [Act.put, List.setIfInBounds_toArray, List.set_cons_zero, List.set_cons_succ]
  refine rz_take [7, 8, 9, 10] (i := 2) (v := ?_) rfl (by kernel_rfl) (by kernel_rfl) (by kernel_rfl) (by kernel_rfl) (by kernel_rfl) (by kernel_rfl) (fun _ _ _ h => h) (by rfl) ?_ ?_
  rotate_left
  · intro W hW; have hW0 := Frm.tr EF.out hW; clear hW; go_simp <;> with_reducible rfl
  try simp only [Act.put, List.setIfInBounds_toArray, List.set_cons_zero, List.set_cons_succ]
  refine rz_take [5, 6, 7, 8, 9, 10] (i := 4) (v := ?_) rfl (by kernel_rfl) (by kernel_rfl) (by kernel_rfl) (by kernel_rfl) (by kernel_rfl) (by kernel_rfl) (fun _ _ _ h => h) (by rfl) ?_ ?_
  rotate_left
  · intro W hW; have hW0 := Frm.tr EF.out hW; clear hW; go_simp <;> with_reducible rfl
  try simp only [Act.put, List.setIfInBounds_toArray, List.set_cons_zero, List.set_cons_succ]
  refine rz_take [6, 7, 8, 9, 10] (i := 5) (v := ?_) rfl (by kernel_rfl) (by kernel_rfl) (by kernel_rfl) (by kernel_rfl) (by kernel_rfl) (by kernel_rfl) (fun _ _ _ h => h) (by rfl) ?_ ?_
  rotate_left
  · intro W hW; have hW0 := Frm.tr EF.out hW; clear hW; go_simp <;> with_reducible rfl
  try simp only [Act.put, List.setIfInBounds_toArray, List.set_cons_zero, List.set_cons_succ]
  refine rz_call (i := 3) rfl (by kernel_rfl) (by rfl) (fun K hK => ?_)
  go_simp
  refine hK _ _ (Frm.of_alloc _ _ _) ?_; clear hK K
  obtain ⟨W5, hW5⟩ : ∃ W5, W5 = (w4.alloc (.cells #[] 3)).drew := ⟨_, rfl⟩
  have O5 : Hid (W5.ownsRow zb 3 1 (.slice (some ⟨zb, 0, none⟩) 0 0) 0 []) := by (show World.ownsRow _ _ _ _ _ _ _); rw [hW5, HZB.out.1]; exact World.ownsRow_made (base := w4.heap.size) (e := 3) (size := 1) w4 #[] 0 (Nat.le_refl _) (Nat.zero_le _) rfl
  have X5 : Hid (Ext w4 W5) := by (show Ext _ _); rw [hW5]; exact Ext.drewR (Ext.alloc _ _)
  have E5 : Hid (Frm (fun k => k = X ∨ zb ≤ k) w4 W5) := Frm.of_below X5.out _
  have S5 : Hid (Sl i64 W5 A2 l2) := HSL.out _ (Ext.trans EX.out X5.out)
  have hzz : w4.heap.size = zb := HZB.out.1.symm
  first | rw [← hW5] | skip
  try rw [hzz]
  clear hW5 hzz
  try simp only [Act.put, List.setIfInBounds_toArray, List.set_cons_zero, List.set_cons_succ]
  refine rz_call (i := 6) rfl (by kernel_rfl) (by rfl) (fun K hK => ?_)
  refine wp_append_list (.tmp 36) (.tmp 38) 33 rfl zb 3 (.int .i64 0) 8 Try.underlying33 info_int21 rfl (by decide) (.slice (some ⟨zb, 0, none⟩) 0 0) 0 [] rfl O5.out i64 A2 l2 n2 cap2 HN2.out.1 rfl S5.out (fun _ => rfl) (by have := HN2.out; omega) (by have := HZB.out; have := X5.out.size; omega) ?_
  intro v6 W6 oo gg bb
  refine hK _ _ (Frm.of_grown gg (fun k hk => .inr (O5.out.lt k hk.symm).1)) ?_; clear hK K
  obtain ⟨A6, c6, rfl⟩ := own_shape oo
  rw [Nat.zero_add, List.nil_append] at oo
  have HK6 : Hid (KnAt W6 A6 l2) := known_own (base := zb) (c := c6) oo
  have X6 : Hid (Ext w4 W6) := by
    have hz := HZB.out.1
    refine Below.grown X5.out gg X5.out.size (fun k hk => ?_)
    have := (O5.out.lt k hk).1
    omega
  have E6 : Hid (Frm (fun k => k = X ∨ zb ≤ k) w4 W6) := Frm.of_below X6.out _
  have kx6 := HX4.out.stay X6.out
  have gf11 := kx6.frozen 11
  have gc11 := kx6.cell 11
  have kx7 := kx6.set 11 (.int .i64 e2)
  have gf12 := kx7.frozen 12
  have gc12 := kx7.cell 12
  have gf12b := kx6.frozen 12
  have gc12b := kx6.cell 12
  simp at gc11 gc12 gc12b
  have HX6 := Lib.hid kx6
  have HX7 := Lib.hid kx7
  rw [Nat.zero_add, ← HN2.out.1]
  clear oo gg bb kx6 kx7
  try simp only [Act.put, List.setIfInBounds_toArray, List.set_cons_zero, List.set_cons_succ]
  refine rz_take [8, 9, 10] (i := 7) (v := ?_) rfl (by kernel_rfl) (by kernel_rfl) (by kernel_rfl) (by kernel_rfl) (by kernel_rfl) (by kernel_rfl) (fun _ _ _ h => h) (by rfl) ?_ ?_
  rotate_left
  · intro W hW; have hW0 := Frm.tr E6.out hW; clear hW; go_simp <;> with_reducible rfl
  try simp only [Act.put, List.setIfInBounds_toArray, List.set_cons_zero, List.set_cons_succ]
  refine rz_take [9, 10] (i := 8) (v := ?_) rfl (by kernel_rfl) (by kernel_rfl) (by kernel_rfl) (by kernel_rfl) (by kernel_rfl) (by kernel_rfl) (fun _ _ _ h => h) (by rfl) ?_ ?_
  rotate_left
  · intro W hW; have hW0 := Frm.tr E6.out hW; clear hW; go_simp <;> with_reducible rfl
  try simp only [Act.put, List.setIfInBounds_toArray, List.set_cons_zero, List.set_cons_succ]
  refine rz_take [10] (i := 9) (v := ?_) rfl (by kernel_rfl) (by kernel_rfl) (by kernel_rfl) (by kernel_rfl) (by kernel_rfl) (by kernel_rfl) (fun _ _ _ h => h) (by rfl) ?_ ?_
  rotate_left
  · intro W hW; have hW0 := Frm.tr E6.out hW; clear hW; go_simp <;> with_reducible rfl
  try simp only [Act.put, List.setIfInBounds_toArray, List.set_cons_zero, List.set_cons_succ]
  refine rz_call (i := 10) rfl (by kernel_rfl) (by rfl) (fun K hK => ?_)
  go_simp
  refine hK _ _ (Frm.tr (Frm.of_set _ _ _ (.inl rfl)) (Frm.of_set _ _ _ (.inl rfl))) ?_; clear hK K
  try simp only [Act.put, List.setIfInBounds_toArray, List.set_cons_zero, List.set_cons_succ]
  refine rz_done (by kernel_rfl) ?_ _
  obtain ⟨W9, hW9⟩ : ∃ W9, W9 = ((W6.setCell ⟨X, 11, none⟩ (.int .i64 e2)).setCell ⟨X, 12, none⟩ (.slice A6 n2 c6)) := ⟨_, rfl⟩
  have kx9 : Blk W9 X 61 #[.int .i64 id, .int .i64 n, .int .i64 seq, .int .i64 ak, .int .i64 tr, .int .i64 c, .int .i64 s, .int .i64 k, .int .i64 i, .int .i64 m, .string d, .int .i64 e2, .slice A6 n2 c6] := by rw [hW9]; exact HX7.out.set 12 _
  have hx6 : Ext w W6 := Ext.trans HX0.out (Ext.trans EX.out X6.out)
  have hkx : Kx base W6 W9 := by rw [hW9]; exact (Kx.set HX6.out HBX.out.1 11 _).trans (Kx.set HX7.out HBX.out.1 12 _)
  have HF : Hid (D (.returned (.tuple #[])) W9) := hD.out _ _ ⟨rfl, ⟨A6, c6, HK6.out.kx hkx, by rw [← HN2.out.1]; exact kx9⟩, (Kx.ext hx6 HBX.out.2).trans hkx⟩
  try rw [← hW9]
  clear kx9 hx6 hkx hW9
  try go_wp2_with fail
  all_goals try go_end0
  exact HF.out

set_option maxRecDepth 8000 in
set_option maxHeartbeats 8000000 in
theorem xask_bn (base X : Nat) (id n seq ep : Int) (ns : List Int) (now qc qs k2 i2 m2 : Int) (d2 : ByteArray) (w : World) (H : XAt w X ⟨id, n, seq, ep, ns, none⟩) (hbX : base ≤ X) (hbw : base ≤ w.heap.size) (hd : d2.size ≤ maxLen) (hs0 : 0 ≤ seq) (hs1 : seq < 1073741824) (hB : mayReqB id (seq + 1) k2 i2 m2 d2.size = false ∨ now < 0 ∨ 1099511627776 < now) :
    Calls Try.prog 25 #[.pointer (some ⟨X, 0, none⟩), .int .i64 now, .agg #[.int .i64 qc, .int .i64 qs, .int .i64 k2, .int .i64 i2, .int .i64 m2, .string d2]] w fun e w' => e = .returned (.tuple #[.int .i64 0, .int .i64 1]) ∧ Ext w w' := by
  refine hide_post fun D hD => ?_
  have HXA := Lib.hid H
  have HBX : Hid (base ≤ X ∧ base ≤ w.heap.size) := ⟨hbX, hbw⟩
  obtain ⟨A, cap, hk, ak, kX0⟩ := H
  obtain ⟨N, hN⟩ : ∃ N, N = ns.length := ⟨_, rfl⟩
  have kX : Blk w X 61 #[.int .i64 id, .int .i64 n, .int .i64 seq, .int .i64 ak, .int .i64 0, .int .i64 0, .int .i64 0, .int .i64 0, .int .i64 0, .int .i64 0, .string ⟨#[]⟩, .int .i64 ep, .slice A N cap] := by rw [hN]; exact kX0
  obtain ⟨s1, hs⟩ : ∃ s1, s1 = seq + 1 := ⟨_, rfl⟩
  have hws : wrap64 (seq + 1) = s1 := by rw [hs]; unfold wrap64; omega
  try rw [← hs] at hD
  rw [← hs] at hB
  obtain ⟨h0, hh0⟩ : ∃ h0, h0 = w.heap.size := ⟨_, rfl⟩
  obtain ⟨W0, hW0⟩ : ∃ W0, W0 = w.alloc (.cells #[.int .i64 id, .int .i64 s1, .int .i64 k2, .int .i64 i2, .int .i64 m2, .string d2] 29) := ⟨_, rfl⟩
  have kq : Blk W0 h0 29 #[.int .i64 id, .int .i64 s1, .int .i64 k2, .int .i64 i2, .int .i64 m2, .string d2] := by rw [hW0, hh0]; exact Blk.new _ _ _
  have hx0 : Ext w W0 := by rw [hW0]; exact Ext.alloc _ _
  have kX0' := kX.stay hx0
  have oz0 : ∀ o, (w.alloc o).cell? ⟨X, 0, none⟩ = some (.int .i64 id) := fun o => (kX.alloc o).cell 0
  have oz2 : ∀ o, (w.alloc o).cell? ⟨X, 2, none⟩ = some (.int .i64 seq) := fun o => (kX.alloc o).cell 2
  have hseq : ¬ (1073741824 : Int) ≤ seq := by omega
  have HW0 := Lib.hid hW0
  have HX0 := Lib.hid hx0
  have HKX := Lib.hid kX0'
  have HKQ := Lib.hid kq
  have HN := Lib.hid hN
  have HH0 : Hid (h0 = w.heap.size ∧ X < w.heap.size) := ⟨hh0, kX.lt⟩
  have HK := Lib.hid hk
  obtain ⟨B, hBB⟩ : ∃ B, B = mayReqB id s1 k2 i2 m2 d2.size := ⟨_, rfl⟩
  rw [← hBB] at hB
  have CM : Hid (∀ V, Ext W0 V → Calls Try.prog 37 #[.agg #[.int .i64 id, .int .i64 s1, .int .i64 k2, .int .i64 i2, .int .i64 m2, .string d2]] V fun e w' => e = .returned (.bool B) ∧ Ext V w') := fun V _ => by rw [hBB]; exact refMayReq_any id s1 k2 i2 m2 d2 V hd
  clear kX kX0 kX0' kq hk hN HXA hbX hbw hs hW0 hx0 hh0 hBB hs0 hs1 hd  
  have hB2 : B = false ∨ (B = true ∧ (now < 0 ∨ (¬ now < 0 ∧ 1099511627776 < now))) := by cases B <;> simp at hB <;> simp <;> omega
  clear hB
  rcases hB2 with rfl | ⟨rfl, h1 | ⟨h1, h2⟩⟩
  · go_enter Try.func25, Try.ntmps25
    go_wp2_with fail
    rw [← HW0.out]
    go_wp2_with (go_at_call 37; (with_reducible refine (CM.out _ (Ext.refl _)).mono ?_); rintro e w5 ⟨rfl, hx⟩; have X5 := Lib.hid hx; have kx5 := HKX.out.stay hx; have c54 := kx5.cell 4; simp at c54; clear hx kx5)
    try go_ret
    exact hD.out _ _ ⟨rfl, Ext.trans HX0.out X5.out⟩
  · go_enter Try.func25, Try.ntmps25
    go_wp2_with fail
    rw [← HW0.out]
    go_wp2_with (go_at_call 37; (with_reducible refine (CM.out _ (Ext.refl _)).mono ?_); rintro e w5 ⟨rfl, hx⟩; have X5 := Lib.hid hx; have kx5 := HKX.out.stay hx; have c54 := kx5.cell 4; simp at c54; clear hx kx5)
    try go_ret
    exact hD.out _ _ ⟨rfl, Ext.trans HX0.out X5.out⟩
  · go_enter Try.func25, Try.ntmps25
    go_wp2_with fail
    rw [← HW0.out]
    go_wp2_with (go_at_call 37; (with_reducible refine (CM.out _ (Ext.refl _)).mono ?_); rintro e w5 ⟨rfl, hx⟩; have X5 := Lib.hid hx; have kx5 := HKX.out.stay hx; have c54 := kx5.cell 4; simp at c54; clear hx kx5)
    try go_ret
    exact hD.out _ _ ⟨rfl, Ext.trans HX0.out X5.out⟩

set_option maxRecDepth 8000 in
set_option maxHeartbeats 8000000 in
theorem xask_bs (base X : Nat) (id n seq ep : Int) (ns : List Int) (c s k i m : Int) (d : ByteArray) (ak tr : Int) (now qc qs k2 i2 m2 : Int) (d2 : ByteArray) (w : World) (H : XAt w X ⟨id, n, seq, ep, ns, some ⟨c, s, k, i, m, d, ak, tr⟩⟩) (hbX : base ≤ X) (hbw : base ≤ w.heap.size) (hd : d2.size ≤ maxLen) (hs0 : 0 ≤ seq) (hs1 : seq < 1073741824) (hB : mayReqB id (seq + 1) k2 i2 m2 d2.size = false ∨ now < 0 ∨ 1099511627776 < now) (h1 : 1 ≤ tr) :
    Calls Try.prog 25 #[.pointer (some ⟨X, 0, none⟩), .int .i64 now, .agg #[.int .i64 qc, .int .i64 qs, .int .i64 k2, .int .i64 i2, .int .i64 m2, .string d2]] w fun e w' => e = .returned (.tuple #[.int .i64 0, .int .i64 1]) ∧ Ext w w' := by
  refine hide_post fun D hD => ?_
  have HXA := Lib.hid H
  have HBX : Hid (base ≤ X ∧ base ≤ w.heap.size) := ⟨hbX, hbw⟩
  obtain ⟨A, cap, hk, kX0⟩ := H
  obtain ⟨N, hN⟩ : ∃ N, N = ns.length := ⟨_, rfl⟩
  have kX : Blk w X 61 #[.int .i64 id, .int .i64 n, .int .i64 seq, .int .i64 ak, .int .i64 tr, .int .i64 c, .int .i64 s, .int .i64 k, .int .i64 i, .int .i64 m, .string d, .int .i64 ep, .slice A N cap] := by rw [hN]; exact kX0
  obtain ⟨s1, hs⟩ : ∃ s1, s1 = seq + 1 := ⟨_, rfl⟩
  have hws : wrap64 (seq + 1) = s1 := by rw [hs]; unfold wrap64; omega
  try rw [← hs] at hD
  rw [← hs] at hB
  obtain ⟨h0, hh0⟩ : ∃ h0, h0 = w.heap.size := ⟨_, rfl⟩
  obtain ⟨W0, hW0⟩ : ∃ W0, W0 = w.alloc (.cells #[.int .i64 id, .int .i64 s1, .int .i64 k2, .int .i64 i2, .int .i64 m2, .string d2] 29) := ⟨_, rfl⟩
  have kq : Blk W0 h0 29 #[.int .i64 id, .int .i64 s1, .int .i64 k2, .int .i64 i2, .int .i64 m2, .string d2] := by rw [hW0, hh0]; exact Blk.new _ _ _
  have hx0 : Ext w W0 := by rw [hW0]; exact Ext.alloc _ _
  have kX0' := kX.stay hx0
  have oz0 : ∀ o, (w.alloc o).cell? ⟨X, 0, none⟩ = some (.int .i64 id) := fun o => (kX.alloc o).cell 0
  have oz2 : ∀ o, (w.alloc o).cell? ⟨X, 2, none⟩ = some (.int .i64 seq) := fun o => (kX.alloc o).cell 2
  have hseq : ¬ (1073741824 : Int) ≤ seq := by omega
  have HW0 := Lib.hid hW0
  have HX0 := Lib.hid hx0
  have HKX := Lib.hid kX0'
  have HKQ := Lib.hid kq
  have HN := Lib.hid hN
  have HH0 : Hid (h0 = w.heap.size ∧ X < w.heap.size) := ⟨hh0, kX.lt⟩
  have HK := Lib.hid hk
  obtain ⟨B, hBB⟩ : ∃ B, B = mayReqB id s1 k2 i2 m2 d2.size := ⟨_, rfl⟩
  rw [← hBB] at hB
  have CM : Hid (∀ V, Ext W0 V → Calls Try.prog 37 #[.agg #[.int .i64 id, .int .i64 s1, .int .i64 k2, .int .i64 i2, .int .i64 m2, .string d2]] V fun e w' => e = .returned (.bool B) ∧ Ext V w') := fun V _ => by rw [hBB]; exact refMayReq_any id s1 k2 i2 m2 d2 V hd
  have htp : (0 : Int) < tr := by omega
  clear kX kX0 kX0' kq hk hN HXA hbX hbw hs hW0 hx0 hh0 hBB hs0 hs1 hd h1 
  have hB2 : B = false ∨ (B = true ∧ (now < 0 ∨ (¬ now < 0 ∧ 1099511627776 < now))) := by cases B <;> simp at hB <;> simp <;> omega
  clear hB
  rcases hB2 with rfl | ⟨rfl, h1 | ⟨h1, h2⟩⟩
  · go_enter Try.func25, Try.ntmps25
    go_wp2_with fail
    rw [← HW0.out]
    go_wp2_with (go_at_call 37; (with_reducible refine (CM.out _ (Ext.refl _)).mono ?_); rintro e w5 ⟨rfl, hx⟩; have X5 := Lib.hid hx; have kx5 := HKX.out.stay hx; have c54 := kx5.cell 4; simp at c54; clear hx kx5)
    try go_ret
    exact hD.out _ _ ⟨rfl, Ext.trans HX0.out X5.out⟩
  · go_enter Try.func25, Try.ntmps25
    go_wp2_with fail
    rw [← HW0.out]
    go_wp2_with (go_at_call 37; (with_reducible refine (CM.out _ (Ext.refl _)).mono ?_); rintro e w5 ⟨rfl, hx⟩; have X5 := Lib.hid hx; have kx5 := HKX.out.stay hx; have c54 := kx5.cell 4; simp at c54; clear hx kx5)
    try go_ret
    exact hD.out _ _ ⟨rfl, Ext.trans HX0.out X5.out⟩
  · go_enter Try.func25, Try.ntmps25
    go_wp2_with fail
    rw [← HW0.out]
    go_wp2_with (go_at_call 37; (with_reducible refine (CM.out _ (Ext.refl _)).mono ?_); rintro e w5 ⟨rfl, hx⟩; have X5 := Lib.hid hx; have kx5 := HKX.out.stay hx; have c54 := kx5.cell 4; simp at c54; clear hx kx5)
    try go_ret
    exact hD.out _ _ ⟨rfl, Ext.trans HX0.out X5.out⟩

set_option maxRecDepth 8000 in
set_option maxHeartbeats 8000000 in
theorem xask_s (base X : Nat) (id n seq ep : Int) (ns : List Int) (c s k i m : Int) (d : ByteArray) (ak tr : Int) (now qc qs k2 i2 m2 : Int) (d2 : ByteArray) (w : World) (H : XAt w X ⟨id, n, seq, ep, ns, some ⟨c, s, k, i, m, d, ak, tr⟩⟩) (hbX : base ≤ X) (hbw : base ≤ w.heap.size) (hd : d2.size ≤ maxLen) (hs0 : 0 ≤ seq) (hs1 : seq < 1073741824) (hB : mayReqB id (seq + 1) k2 i2 m2 d2.size = true) (hn0 : 0 ≤ now) (hn1 : now ≤ 1099511627776) (h1 : 1 ≤ tr) :
    Calls Try.prog 25 #[.pointer (some ⟨X, 0, none⟩), .int .i64 now, .agg #[.int .i64 qc, .int .i64 qs, .int .i64 k2, .int .i64 i2, .int .i64 m2, .string d2]] w fun e w' => e = .returned (.tuple #[.int .i64 0, .int .i64 4]) ∧ Ext w w' := by
  refine hide_post fun D hD => ?_
  have HXA := Lib.hid H
  have HBX : Hid (base ≤ X ∧ base ≤ w.heap.size) := ⟨hbX, hbw⟩
  obtain ⟨A, cap, hk, kX0⟩ := H
  obtain ⟨N, hN⟩ : ∃ N, N = ns.length := ⟨_, rfl⟩
  have kX : Blk w X 61 #[.int .i64 id, .int .i64 n, .int .i64 seq, .int .i64 ak, .int .i64 tr, .int .i64 c, .int .i64 s, .int .i64 k, .int .i64 i, .int .i64 m, .string d, .int .i64 ep, .slice A N cap] := by rw [hN]; exact kX0
  obtain ⟨s1, hs⟩ : ∃ s1, s1 = seq + 1 := ⟨_, rfl⟩
  have hws : wrap64 (seq + 1) = s1 := by rw [hs]; unfold wrap64; omega
  try rw [← hs] at hD
  rw [← hs] at hB
  obtain ⟨h0, hh0⟩ : ∃ h0, h0 = w.heap.size := ⟨_, rfl⟩
  obtain ⟨W0, hW0⟩ : ∃ W0, W0 = w.alloc (.cells #[.int .i64 id, .int .i64 s1, .int .i64 k2, .int .i64 i2, .int .i64 m2, .string d2] 29) := ⟨_, rfl⟩
  have kq : Blk W0 h0 29 #[.int .i64 id, .int .i64 s1, .int .i64 k2, .int .i64 i2, .int .i64 m2, .string d2] := by rw [hW0, hh0]; exact Blk.new _ _ _
  have hx0 : Ext w W0 := by rw [hW0]; exact Ext.alloc _ _
  have kX0' := kX.stay hx0
  have oz0 : ∀ o, (w.alloc o).cell? ⟨X, 0, none⟩ = some (.int .i64 id) := fun o => (kX.alloc o).cell 0
  have oz2 : ∀ o, (w.alloc o).cell? ⟨X, 2, none⟩ = some (.int .i64 seq) := fun o => (kX.alloc o).cell 2
  have hseq : ¬ (1073741824 : Int) ≤ seq := by omega
  have HW0 := Lib.hid hW0
  have HX0 := Lib.hid hx0
  have HKX := Lib.hid kX0'
  have HKQ := Lib.hid kq
  have HN := Lib.hid hN
  have HH0 : Hid (h0 = w.heap.size ∧ X < w.heap.size) := ⟨hh0, kX.lt⟩
  have HK := Lib.hid hk
  obtain ⟨B, hBB⟩ : ∃ B, B = mayReqB id s1 k2 i2 m2 d2.size := ⟨_, rfl⟩
  rw [← hBB] at hB
  have CM : Hid (∀ V, Ext W0 V → Calls Try.prog 37 #[.agg #[.int .i64 id, .int .i64 s1, .int .i64 k2, .int .i64 i2, .int .i64 m2, .string d2]] V fun e w' => e = .returned (.bool B) ∧ Ext V w') := fun V _ => by rw [hBB]; exact refMayReq_any id s1 k2 i2 m2 d2 V hd
  have htp : (0 : Int) < tr := by omega
  clear kX kX0 kX0' kq hk hN HXA hbX hbw hs hW0 hx0 hh0 hBB hs0 hs1 hd h1 
  subst hB
  have hnn : ¬ now < 0 := by omega
  have hnm : ¬ 1099511627776 < now := by omega
  go_enter Try.func25, Try.ntmps25
  go_wp2_with fail
  rw [← HW0.out]
  go_wp2_with (go_at_call 37; (with_reducible refine (CM.out _ (Ext.refl _)).mono ?_); rintro e w5 ⟨rfl, hx⟩; have X5 := Lib.hid hx; have kx5 := HKX.out.stay hx; have c54 := kx5.cell 4; simp at c54; clear hx kx5)
  try go_ret
  exact hD.out _ _ ⟨rfl, Ext.trans HX0.out X5.out⟩

set_option maxRecDepth 8000 in
set_option maxHeartbeats 8000000 in
theorem xask_ok (base X : Nat) (id n seq ep : Int) (ns : List Int) (now qc qs k2 i2 m2 : Int) (d2 : ByteArray) (w : World) (H : XAt w X ⟨id, n, seq, ep, ns, none⟩) (hbX : base ≤ X) (hbw : base ≤ w.heap.size) (hd : d2.size ≤ maxLen) (hs0 : 0 ≤ seq) (hs1 : seq < 1073741824) (hB : mayReqB id (seq + 1) k2 i2 m2 d2.size = true) (hn0 : 0 ≤ now) (hn1 : now ≤ 1099511627776) (hn : 1 ≤ n) (hns : ns.length ≤ 1000) :
    Calls Try.prog 25 #[.pointer (some ⟨X, 0, none⟩), .int .i64 now, .agg #[.int .i64 qc, .int .i64 qs, .int .i64 k2, .int .i64 i2, .int .i64 m2, .string d2]] w fun e w' => e = .returned (.tuple #[.int .i64 (targetF ns n 1 (decide (k2 = 1 ∨ k2 = 2 ∨ k2 = 3))), .int .i64 0]) ∧ XAt w' X ⟨id, n, (seq + 1), ep, ns, some ⟨id, seq + 1, k2, i2, m2, d2, now, 1⟩⟩ ∧ Kx base w w' := by
  refine hide_post fun D hD => ?_
  have HXA := Lib.hid H
  have HBX : Hid (base ≤ X ∧ base ≤ w.heap.size) := ⟨hbX, hbw⟩
  obtain ⟨A, cap, hk, ak, kX0⟩ := H
  obtain ⟨N, hN⟩ : ∃ N, N = ns.length := ⟨_, rfl⟩
  have kX : Blk w X 61 #[.int .i64 id, .int .i64 n, .int .i64 seq, .int .i64 ak, .int .i64 0, .int .i64 0, .int .i64 0, .int .i64 0, .int .i64 0, .int .i64 0, .string ⟨#[]⟩, .int .i64 ep, .slice A N cap] := by rw [hN]; exact kX0
  obtain ⟨s1, hs⟩ : ∃ s1, s1 = seq + 1 := ⟨_, rfl⟩
  have hws : wrap64 (seq + 1) = s1 := by rw [hs]; unfold wrap64; omega
  try rw [← hs] at hD
  rw [← hs] at hB
  obtain ⟨h0, hh0⟩ : ∃ h0, h0 = w.heap.size := ⟨_, rfl⟩
  obtain ⟨W0, hW0⟩ : ∃ W0, W0 = w.alloc (.cells #[.int .i64 id, .int .i64 s1, .int .i64 k2, .int .i64 i2, .int .i64 m2, .string d2] 29) := ⟨_, rfl⟩
  have kq : Blk W0 h0 29 #[.int .i64 id, .int .i64 s1, .int .i64 k2, .int .i64 i2, .int .i64 m2, .string d2] := by rw [hW0, hh0]; exact Blk.new _ _ _
  have hx0 : Ext w W0 := by rw [hW0]; exact Ext.alloc _ _
  have kX0' := kX.stay hx0
  have oz0 : ∀ o, (w.alloc o).cell? ⟨X, 0, none⟩ = some (.int .i64 id) := fun o => (kX.alloc o).cell 0
  have oz2 : ∀ o, (w.alloc o).cell? ⟨X, 2, none⟩ = some (.int .i64 seq) := fun o => (kX.alloc o).cell 2
  have hseq : ¬ (1073741824 : Int) ≤ seq := by omega
  have HW0 := Lib.hid hW0
  have HX0 := Lib.hid hx0
  have HKX := Lib.hid kX0'
  have HKQ := Lib.hid kq
  have HN := Lib.hid hN
  have HH0 : Hid (h0 = w.heap.size ∧ X < w.heap.size) := ⟨hh0, kX.lt⟩
  have HK := Lib.hid hk
  obtain ⟨B, hBB⟩ : ∃ B, B = mayReqB id s1 k2 i2 m2 d2.size := ⟨_, rfl⟩
  rw [← hBB] at hB
  have CM : Hid (∀ V, Ext W0 V → Calls Try.prog 37 #[.agg #[.int .i64 id, .int .i64 s1, .int .i64 k2, .int .i64 i2, .int .i64 m2, .string d2]] V fun e w' => e = .returned (.bool B) ∧ Ext V w') := fun V _ => by rw [hBB]; exact refMayReq_any id s1 k2 i2 m2 d2 V hd
  have HTR : Hid (∀ V, KnAt V A ns → Calls Try.prog 43 #[.agg #[.int .i64 ep, .slice A N cap], .int .i64 n, .int .i64 1, .bool (decide (k2 = 1 ∨ k2 = 2 ∨ k2 = 3))] V fun e w' => e = .returned (.int .i64 (targetF ns n 1 (decide (k2 = 1 ∨ k2 = 2 ∨ k2 = 3)))) ∧ Ext V w') := fun V hV => by
    rw [hN]
    exact rtarget_any ep A cap ns n 1 (decide (k2 = 1 ∨ k2 = 2 ∨ k2 = 3)) V hn (by omega) hns hV.sl
  have CW : Hid (∀ V, Calls Try.prog 44 #[.agg #[.int .i64 id, .int .i64 s1, .int .i64 k2, .int .i64 i2, .int .i64 m2, .string d2]] V fun e w' => e = .returned (.bool (decide (k2 = 1 ∨ k2 = 2 ∨ k2 = 3))) ∧ Ext V w') := fun V => refWrites_any id s1 k2 i2 m2 d2 V
  have HSEQ : Hid (s1 = seq + 1) := hs
  clear kX kX0 kX0' kq hk hN HXA hbX hbw hs hW0 hx0 hh0 hBB hs0 hs1 hd  hn hns
  generalize targetF ns n 1 (decide (k2 = 1 ∨ k2 = 2 ∨ k2 = 3)) = r at *
  generalize (decide (k2 = 1 ∨ k2 = 2 ∨ k2 = 3)) = bw at *
  subst hB
  have hnn : ¬ now < 0 := by omega
  have hnm : ¬ 1099511627776 < now := by omega
  go_enter Try.func25, Try.ntmps25
  go_wp2_with fail
  rw [← HW0.out]
  go_wp2_with (go_at_call 37; (with_reducible refine (CM.out _ (Ext.refl _)).mono ?_); rintro e w5 ⟨rfl, hx⟩; have X5 := Lib.hid hx; have kx5 := HKX.out.stay hx; have c54 := kx5.cell 4; simp at c54; clear hx kx5)
  have HX5 : Hid (Blk w5 X 61 #[.int .i64 id, .int .i64 n, .int .i64 seq, .int .i64 ak, .int .i64 0, .int .i64 0, .int .i64 0, .int .i64 0, .int .i64 0, .int .i64 0, .string ⟨#[]⟩, .int .i64 ep, .slice A N cap]) := HKX.out.stay X5.out
  have kq5 := HKQ.out.stay X5.out
  have hne : ¬ h0 = X := by have := HH0.out; omega
  have fr0 : ∀ V, Frm (fun k => k = X) w5 V → V.cell? ⟨h0, 0, none⟩ = some (.int .i64 id) := fun V h => (kq5.frm h hne).cell 0
  have fr1 : ∀ V, Frm (fun k => k = X) w5 V → V.cell? ⟨h0, 1, none⟩ = some (.int .i64 s1) := fun V h => (kq5.frm h hne).cell 1
  have fr2 : ∀ V, Frm (fun k => k = X) w5 V → V.cell? ⟨h0, 2, none⟩ = some (.int .i64 k2) := fun V h => (kq5.frm h hne).cell 2
  have fr3 : ∀ V, Frm (fun k => k = X) w5 V → V.cell? ⟨h0, 3, none⟩ = some (.int .i64 i2) := fun V h => (kq5.frm h hne).cell 3
  have fr4 : ∀ V, Frm (fun k => k = X) w5 V → V.cell? ⟨h0, 4, none⟩ = some (.int .i64 m2) := fun V h => (kq5.frm h hne).cell 4
  have fr5 : ∀ V, Frm (fun k => k = X) w5 V → V.cell? ⟨h0, 5, none⟩ = some (.string d2) := fun V h => (kq5.frm h hne).cell 5
  have HKQ5 := Lib.hid kq5
  have HNE : Hid (¬ h0 = X) := hne
  have EF : Hid (Frm (fun k => k = X) w5 w5.drew) := (Frm.refl _ _).drew
  have HXW5 := HX5
  have hh0' : w.heap.size = h0 := HH0.out.1.symm
  try rw [hh0']
  clear kq5 hne oz0 oz2 hh0'
  refine rz_begin (fun k => k = X) [] (by kernel_rfl) ?_
  refine rz_take [8, 9, 10, 11, 12, 13, 14, 15, 16, 17, 18, 19] (i := 0) (v := ?_) rfl (by kernel_rfl) (by kernel_rfl) (by kernel_rfl) (by kernel_rfl) (by kernel_rfl) (by kernel_rfl) (fun _ _ _ h => h) (by rfl) ?_ ?_
  rotate_left
  · intro W hW; have hW0 := Frm.tr EF.out hW; clear hW; go_simp <;> with_reducible rfl
  try simp only [Act.put, List.setIfInBounds_toArray, List.set_cons_zero, List.set_cons_succ]
  refine rz_take [11, 12, 13, 14, 15, 16, 17, 18, 19] (i := 1) (v := ?_) rfl (by kernel_rfl) (by kernel_rfl) (by kernel_rfl) (by kernel_rfl) (by kernel_rfl) (by kernel_rfl) (fun _ _ _ h => h) (by rfl) ?_ ?_
  rotate_left
  · intro W hW; have hW0 := Frm.tr EF.out hW; clear hW; go_simp <;> with_reducible rfl
  try simp only [Act.put, List.setIfInBounds_toArray, List.set_cons_zero, List.set_cons_succ]
  refine rz_take [14, 15, 16, 17, 18, 19] (i := 2) (v := ?_) rfl (by kernel_rfl) (by kernel_rfl) (by kernel_rfl) (by kernel_rfl) (by kernel_rfl) (by kernel_rfl) (fun _ _ _ h => h) (by rfl) ?_ ?_
  rotate_left
  · intro W hW; have hW0 := Frm.tr EF.out hW; clear hW; go_simp <;> with_reducible rfl
  try simp only [Act.put, List.setIfInBounds_toArray, List.set_cons_zero, List.set_cons_succ]
  refine rz_take [17, 18, 19] (i := 3) (v := ?_) rfl (by kernel_rfl) (by kernel_rfl) (by kernel_rfl) (by kernel_rfl) (by kernel_rfl) (by kernel_rfl) (fun _ _ _ h => h) (by rfl) ?_ ?_
  rotate_left
  · intro W hW; have hW0 := Frm.tr EF.out hW; clear hW; go_simp <;> with_reducible rfl
  try simp only [Act.put, List.setIfInBounds_toArray, List.set_cons_zero, List.set_cons_succ]
  refine rz_take [5, 8, 9, 10, 11, 12, 13, 14, 15, 16, 17, 18, 19] (i := 4) (v := ?_) rfl (by kernel_rfl) (by kernel_rfl) (by kernel_rfl) (by kernel_rfl) (by kernel_rfl) (by kernel_rfl) (fun _ _ _ h => h) (by rfl) ?_ ?_
  rotate_left
  · intro W hW; have hW0 := Frm.tr EF.out hW; clear hW; go_simp <;> with_reducible rfl
  try simp only [Act.put, List.setIfInBounds_toArray, List.set_cons_zero, List.set_cons_succ]
  refine rz_take [8, 9, 10, 11, 12, 13, 14, 15, 16, 17, 18, 19] (i := 5) (v := ?_) rfl (by kernel_rfl) (by kernel_rfl) (by kernel_rfl) (by kernel_rfl) (by kernel_rfl) (by kernel_rfl) (fun _ _ _ h => h) (by rfl) ?_ ?_
  rotate_left
  · intro W hW; have hW0 := Frm.tr EF.out hW; clear hW; go_simp <;> with_reducible rfl
  try simp only [Act.put, List.setIfInBounds_toArray, List.set_cons_zero, List.set_cons_succ]
  refine rz_take [11, 12, 13, 14, 15, 16, 17, 18, 19] (i := 6) (v := ?_) rfl (by kernel_rfl) (by kernel_rfl) (by kernel_rfl) (by kernel_rfl) (by kernel_rfl) (by kernel_rfl) (fun _ _ _ h => h) (by rfl) ?_ ?_
  rotate_left
  · intro W hW; have hW0 := Frm.tr EF.out hW; clear hW; go_simp <;> with_reducible rfl
  try simp only [Act.put, List.setIfInBounds_toArray, List.set_cons_zero, List.set_cons_succ]
  refine rz_take [14, 15, 16, 17, 18, 19] (i := 7) (v := ?_) rfl (by kernel_rfl) (by kernel_rfl) (by kernel_rfl) (by kernel_rfl) (by kernel_rfl) (by kernel_rfl) (fun _ _ _ h => h) (by rfl) ?_ ?_
  rotate_left
  · intro W hW; have hW0 := Frm.tr EF.out hW; clear hW; go_simp <;> with_reducible rfl
  try simp only [Act.put, List.setIfInBounds_toArray, List.set_cons_zero, List.set_cons_succ]
  refine rz_take [9, 10, 11, 12, 13, 14, 15, 16, 17, 18, 19] (i := 8) (v := ?_) rfl (by kernel_rfl) (by kernel_rfl) (by kernel_rfl) (by kernel_rfl) (by kernel_rfl) (by kernel_rfl) (fun _ _ _ h => h) (by rfl) ?_ ?_
  rotate_left
  · intro W hW; have hW0 := Frm.tr EF.out hW; clear hW; go_simp <;> with_reducible rfl
  try simp only [Act.put, List.setIfInBounds_toArray, List.set_cons_zero, List.set_cons_succ]
  refine rz_take [10, 11, 12, 13, 14, 15, 16, 17, 18, 19] (i := 9) (v := ?_) rfl (by kernel_rfl) (by kernel_rfl) (by kernel_rfl) (by kernel_rfl) (by kernel_rfl) (by kernel_rfl) (fun _ _ _ h => h) (by rfl) ?_ ?_
  rotate_left
  · intro W hW; have hW0 := Frm.tr EF.out hW; clear hW; go_simp <;> with_reducible rfl
  try simp only [Act.put, List.setIfInBounds_toArray, List.set_cons_zero, List.set_cons_succ]
  refine rz_call (i := 10) rfl (by kernel_rfl) (by rfl) (fun K hK => ?_)
  have gf1_0 := (HX5.out.drew).frozen 2
  have gc1_0 := (HX5.out.drew).cell 2
  simp at gc1_0
  have kk1_0 := (HX5.out.drew).set 2 (.int .i64 s1)
  go_simp
  refine hK _ _ (Frm.of_set _ _ _ rfl) ?_; clear hK K
  obtain ⟨V1, hV1⟩ : ∃ V, V = ((w5.setCell ⟨X, 2, none⟩ (.int .i64 s1))).drew := ⟨_, rfl⟩
  have KX1 : Hid (Blk V1 X 61 #[.int .i64 id, .int .i64 n, .int .i64 s1, .int .i64 ak, .int .i64 0, .int .i64 0, .int .i64 0, .int .i64 0, .int .i64 0, .int .i64 0, .string ⟨#[]⟩, .int .i64 ep, .slice A N cap]) := by (show Blk _ _ _ _); rw [hV1]; exact kk1_0
  have HKx1 : Hid (Kx base w5 V1) := by (show Kx _ _ _); rw [hV1]; exact Kx.drew (Kx.set (HX5.out) HBX.out.1 2 _)
  have E1 : Hid (Frm (fun k => k = X) w5 V1) := by (show Frm _ _ _); rw [hV1]; exact Frm.drew (Frm.of_set _ _ _ rfl)
  rw [← hV1]
  clear hV1 kk1_0 gf1_0 gc1_0 
  try simp only [Act.put, List.setIfInBounds_toArray, List.set_cons_zero, List.set_cons_succ]
  refine rz_take [12, 13, 14, 15, 16, 17, 18, 19] (i := 11) (v := ?_) rfl (by kernel_rfl) (by kernel_rfl) (by kernel_rfl) (by kernel_rfl) (by kernel_rfl) (by kernel_rfl) (fun _ _ _ h => h) (by rfl) ?_ ?_
  rotate_left
  · intro W hW; have hW0 := Frm.tr E1.out hW; clear hW; go_simp <;> with_reducible rfl
  try simp only [Act.put, List.setIfInBounds_toArray, List.set_cons_zero, List.set_cons_succ]
  refine rz_take [13, 14, 15, 16, 17, 18, 19] (i := 12) (v := ?_) rfl (by kernel_rfl) (by kernel_rfl) (by kernel_rfl) (by kernel_rfl) (by kernel_rfl) (by kernel_rfl) (fun _ _ _ h => h) (by rfl) ?_ ?_
  rotate_left
  · intro W hW; have hW0 := Frm.tr E1.out hW; clear hW; go_simp <;> with_reducible rfl
  try simp only [Act.put, List.setIfInBounds_toArray, List.set_cons_zero, List.set_cons_succ]
  refine rz_call (i := 13) rfl (by kernel_rfl) (by rfl) (fun K hK => ?_)
  have gf2_0 := (KX1.out).frozen 5
  have gc2_0 := (KX1.out).cell 5
  simp at gc2_0
  have kk2_0 := (KX1.out).set 5 (.int .i64 id)
  have gf2_1 := (kk2_0).frozen 6
  have gc2_1 := (kk2_0).cell 6
  simp at gc2_1
  have gfb2_1 := (KX1.out).frozen 6
  have gcb2_1 := (KX1.out).cell 6
  simp at gcb2_1
  have kk2_1 := (kk2_0).set 6 (.int .i64 s1)
  have gf2_2 := (kk2_1).frozen 7
  have gc2_2 := (kk2_1).cell 7
  simp at gc2_2
  have gfb2_2 := (KX1.out).frozen 7
  have gcb2_2 := (KX1.out).cell 7
  simp at gcb2_2
  have kk2_2 := (kk2_1).set 7 (.int .i64 k2)
  have gf2_3 := (kk2_2).frozen 8
  have gc2_3 := (kk2_2).cell 8
  simp at gc2_3
  have gfb2_3 := (KX1.out).frozen 8
  have gcb2_3 := (KX1.out).cell 8
  simp at gcb2_3
  have kk2_3 := (kk2_2).set 8 (.int .i64 i2)
  have gf2_4 := (kk2_3).frozen 9
  have gc2_4 := (kk2_3).cell 9
  simp at gc2_4
  have gfb2_4 := (KX1.out).frozen 9
  have gcb2_4 := (KX1.out).cell 9
  simp at gcb2_4
  have kk2_4 := (kk2_3).set 9 (.int .i64 m2)
  have gf2_5 := (kk2_4).frozen 10
  have gc2_5 := (kk2_4).cell 10
  simp at gc2_5
  have gfb2_5 := (KX1.out).frozen 10
  have gcb2_5 := (KX1.out).cell 10
  simp at gcb2_5
  have kk2_5 := (kk2_4).set 10 (.string d2)
  go_simp
  refine hK _ _ (Frm.tr (Frm.tr (Frm.tr (Frm.tr (Frm.tr (Frm.of_set _ _ _ rfl) (Frm.of_set _ _ _ rfl)) (Frm.of_set _ _ _ rfl)) (Frm.of_set _ _ _ rfl)) (Frm.of_set _ _ _ rfl)) (Frm.of_set _ _ _ rfl)) ?_; clear hK K
  obtain ⟨V2, hV2⟩ : ∃ V, V = ((((((V1.setCell ⟨X, 5, none⟩ (.int .i64 id)).setCell ⟨X, 6, none⟩ (.int .i64 s1)).setCell ⟨X, 7, none⟩ (.int .i64 k2)).setCell ⟨X, 8, none⟩ (.int .i64 i2)).setCell ⟨X, 9, none⟩ (.int .i64 m2)).setCell ⟨X, 10, none⟩ (.string d2)) := ⟨_, rfl⟩
  have KX2 : Hid (Blk V2 X 61 #[.int .i64 id, .int .i64 n, .int .i64 s1, .int .i64 ak, .int .i64 0, .int .i64 id, .int .i64 s1, .int .i64 k2, .int .i64 i2, .int .i64 m2, .string d2, .int .i64 ep, .slice A N cap]) := by (show Blk _ _ _ _); rw [hV2]; exact kk2_5
  have HKx2 : Hid (Kx base V1 V2) := by (show Kx _ _ _); rw [hV2]; exact (((((Kx.set (KX1.out) HBX.out.1 5 _).trans (Kx.set kk2_0 HBX.out.1 6 _)).trans (Kx.set kk2_1 HBX.out.1 7 _)).trans (Kx.set kk2_2 HBX.out.1 8 _)).trans (Kx.set kk2_3 HBX.out.1 9 _)).trans (Kx.set kk2_4 HBX.out.1 10 _)
  have E2 : Hid (Frm (fun k => k = X) w5 V2) := by (show Frm _ _ _); rw [hV2]; exact Frm.tr E1.out (Frm.tr (Frm.tr (Frm.tr (Frm.tr (Frm.tr (Frm.of_set _ _ _ rfl) (Frm.of_set _ _ _ rfl)) (Frm.of_set _ _ _ rfl)) (Frm.of_set _ _ _ rfl)) (Frm.of_set _ _ _ rfl)) (Frm.of_set _ _ _ rfl))
  rw [← hV2]
  clear hV2 kk2_0 gf2_0 gc2_0 kk2_1 gf2_1 gc2_1 kk2_2 gf2_2 gc2_2 kk2_3 gf2_3 gc2_3 kk2_4 gf2_4 gc2_4 kk2_5 gf2_5 gc2_5 gfb2_1 gcb2_1 gfb2_2 gcb2_2 gfb2_3 gcb2_3 gfb2_4 gcb2_4 gfb2_5 gcb2_5
  try simp only [Act.put, List.setIfInBounds_toArray, List.set_cons_zero, List.set_cons_succ]
  refine rz_take [15, 16, 17, 18, 19] (i := 14) (v := ?_) rfl (by kernel_rfl) (by kernel_rfl) (by kernel_rfl) (by kernel_rfl) (by kernel_rfl) (by kernel_rfl) (fun _ _ _ h => h) (by rfl) ?_ ?_
  rotate_left
  · intro W hW; have hW0 := Frm.tr E2.out hW; clear hW; go_simp <;> with_reducible rfl
  try simp only [Act.put, List.setIfInBounds_toArray, List.set_cons_zero, List.set_cons_succ]
  refine rz_take [16, 17, 18, 19] (i := 15) (v := ?_) rfl (by kernel_rfl) (by kernel_rfl) (by kernel_rfl) (by kernel_rfl) (by kernel_rfl) (by kernel_rfl) (fun _ _ _ h => h) (by rfl) ?_ ?_
  rotate_left
  · intro W hW; have hW0 := Frm.tr E2.out hW; clear hW; go_simp <;> with_reducible rfl
  try simp only [Act.put, List.setIfInBounds_toArray, List.set_cons_zero, List.set_cons_succ]
  refine rz_call (i := 16) rfl (by kernel_rfl) (by rfl) (fun K hK => ?_)
  have gf3_0 := (KX2.out).frozen 3
  have gc3_0 := (KX2.out).cell 3
  simp at gc3_0
  have kk3_0 := (KX2.out).set 3 (.int .i64 now)
  go_simp
  refine hK _ _ (Frm.of_set _ _ _ rfl) ?_; clear hK K
  obtain ⟨V3, hV3⟩ : ∃ V, V = (V2.setCell ⟨X, 3, none⟩ (.int .i64 now)) := ⟨_, rfl⟩
  have KX3 : Hid (Blk V3 X 61 #[.int .i64 id, .int .i64 n, .int .i64 s1, .int .i64 now, .int .i64 0, .int .i64 id, .int .i64 s1, .int .i64 k2, .int .i64 i2, .int .i64 m2, .string d2, .int .i64 ep, .slice A N cap]) := by (show Blk _ _ _ _); rw [hV3]; exact kk3_0
  have HKx3 : Hid (Kx base V2 V3) := by (show Kx _ _ _); rw [hV3]; exact Kx.set (KX2.out) HBX.out.1 3 _
  have E3 : Hid (Frm (fun k => k = X) w5 V3) := by (show Frm _ _ _); rw [hV3]; exact Frm.tr E2.out (Frm.of_set _ _ _ rfl)
  rw [← hV3]
  clear hV3 kk3_0 gf3_0 gc3_0 
  try simp only [Act.put, List.setIfInBounds_toArray, List.set_cons_zero, List.set_cons_succ]
  refine rz_take [18, 19] (i := 17) (v := ?_) rfl (by kernel_rfl) (by kernel_rfl) (by kernel_rfl) (by kernel_rfl) (by kernel_rfl) (by kernel_rfl) (fun _ _ _ h => h) (by rfl) ?_ ?_
  rotate_left
  · intro W hW; have hW0 := Frm.tr E3.out hW; clear hW; go_simp <;> with_reducible rfl
  try simp only [Act.put, List.setIfInBounds_toArray, List.set_cons_zero, List.set_cons_succ]
  refine rz_take [19] (i := 18) (v := ?_) rfl (by kernel_rfl) (by kernel_rfl) (by kernel_rfl) (by kernel_rfl) (by kernel_rfl) (by kernel_rfl) (fun _ _ _ h => h) (by rfl) ?_ ?_
  rotate_left
  · intro W hW; have hW0 := Frm.tr E3.out hW; clear hW; go_simp <;> with_reducible rfl
  try simp only [Act.put, List.setIfInBounds_toArray, List.set_cons_zero, List.set_cons_succ]
  refine rz_call (i := 19) rfl (by kernel_rfl) (by rfl) (fun K hK => ?_)
  have gf4_0 := (KX3.out).frozen 4
  have gc4_0 := (KX3.out).cell 4
  simp at gc4_0
  have kk4_0 := (KX3.out).set 4 (.int .i64 1)
  go_simp
  refine hK _ _ (Frm.of_set _ _ _ rfl) ?_; clear hK K
  obtain ⟨V4, hV4⟩ : ∃ V, V = (V3.setCell ⟨X, 4, none⟩ (.int .i64 1)) := ⟨_, rfl⟩
  have KX4 : Hid (Blk V4 X 61 #[.int .i64 id, .int .i64 n, .int .i64 s1, .int .i64 now, .int .i64 1, .int .i64 id, .int .i64 s1, .int .i64 k2, .int .i64 i2, .int .i64 m2, .string d2, .int .i64 ep, .slice A N cap]) := by (show Blk _ _ _ _); rw [hV4]; exact kk4_0
  have HKx4 : Hid (Kx base V3 V4) := by (show Kx _ _ _); rw [hV4]; exact Kx.set (KX3.out) HBX.out.1 4 _
  have E4 : Hid (Frm (fun k => k = X) w5 V4) := by (show Frm _ _ _); rw [hV4]; exact Frm.tr E3.out (Frm.of_set _ _ _ rfl)
  rw [← hV4]
  clear hV4 kk4_0 gf4_0 gc4_0 
  try simp only [Act.put, List.setIfInBounds_toArray, List.set_cons_zero, List.set_cons_succ]
  refine rz_done (by kernel_rfl) ?_ _
  have hkx : Kx base w V4 := ((((Kx.ext (Ext.trans HX0.out X5.out) HBX.out.2).trans HKx1.out).trans HKx2.out).trans HKx3.out).trans HKx4.out
  have hk4 := HK.out.kx hkx
  have kq4 := HKQ5.out.frm E4.out HNE.out
  have HE : Hid (∀ V, Ext V4 V → D (.returned (.tuple #[.int .i64 r, .int .i64 0])) V) := fun V hV => hD.out _ _ ⟨rfl, ⟨A, cap, hk4.stay hV, by rw [← HN.out]; exact KX4.out.stay hV⟩, hkx.trans (Kx.ext hV (Nat.le_trans HBX.out.2 hkx.1.size))⟩
  have CT : Hid (∀ V, Ext V4 V → Calls Try.prog 43 #[.agg #[.int .i64 ep, .slice A N cap], .int .i64 n, .int .i64 1, .bool bw] V fun e w' => e = .returned (.int .i64 r) ∧ Ext V w') := fun V hV => HTR.out V (hk4.stay hV)
  clear fr0 fr1 fr2 fr3 fr4 fr5
  have fy0 : ∀ V, Ext V4 V → V.cell? ⟨X, 0, none⟩ = some (.int .i64 id) := fun V h => (KX4.out.stay h).cell 0
  have fy1 : ∀ V, Ext V4 V → V.cell? ⟨X, 1, none⟩ = some (.int .i64 n) := fun V h => (KX4.out.stay h).cell 1
  have fy2 : ∀ V, Ext V4 V → V.cell? ⟨X, 2, none⟩ = some (.int .i64 s1) := fun V h => (KX4.out.stay h).cell 2
  have fy3 : ∀ V, Ext V4 V → V.cell? ⟨X, 3, none⟩ = some (.int .i64 now) := fun V h => (KX4.out.stay h).cell 3
  have fy4 : ∀ V, Ext V4 V → V.cell? ⟨X, 4, none⟩ = some (.int .i64 1) := fun V h => (KX4.out.stay h).cell 4
  have fy5 : ∀ V, Ext V4 V → V.cell? ⟨X, 5, none⟩ = some (.int .i64 id) := fun V h => (KX4.out.stay h).cell 5
  have fy6 : ∀ V, Ext V4 V → V.cell? ⟨X, 6, none⟩ = some (.int .i64 s1) := fun V h => (KX4.out.stay h).cell 6
  have fy7 : ∀ V, Ext V4 V → V.cell? ⟨X, 7, none⟩ = some (.int .i64 k2) := fun V h => (KX4.out.stay h).cell 7
  have fy8 : ∀ V, Ext V4 V → V.cell? ⟨X, 8, none⟩ = some (.int .i64 i2) := fun V h => (KX4.out.stay h).cell 8
  have fy9 : ∀ V, Ext V4 V → V.cell? ⟨X, 9, none⟩ = some (.int .i64 m2) := fun V h => (KX4.out.stay h).cell 9
  have fy10 : ∀ V, Ext V4 V → V.cell? ⟨X, 10, none⟩ = some (.string d2) := fun V h => (KX4.out.stay h).cell 10
  have fy11 : ∀ V, Ext V4 V → V.cell? ⟨X, 11, none⟩ = some (.int .i64 ep) := fun V h => (KX4.out.stay h).cell 11
  have fy12 : ∀ V, Ext V4 V → V.cell? ⟨X, 12, none⟩ = some (.slice A N cap) := fun V h => (KX4.out.stay h).cell 12
  have fq0 : ∀ V, Ext V4 V → V.cell? ⟨h0, 0, none⟩ = some (.int .i64 id) := fun V h => (kq4.stay h).cell 0
  have fq1 : ∀ V, Ext V4 V → V.cell? ⟨h0, 1, none⟩ = some (.int .i64 s1) := fun V h => (kq4.stay h).cell 1
  have fq2 : ∀ V, Ext V4 V → V.cell? ⟨h0, 2, none⟩ = some (.int .i64 k2) := fun V h => (kq4.stay h).cell 2
  have fq3 : ∀ V, Ext V4 V → V.cell? ⟨h0, 3, none⟩ = some (.int .i64 i2) := fun V h => (kq4.stay h).cell 3
  have fq4 : ∀ V, Ext V4 V → V.cell? ⟨h0, 4, none⟩ = some (.int .i64 m2) := fun V h => (kq4.stay h).cell 4
  have fq5 : ∀ V, Ext V4 V → V.cell? ⟨h0, 5, none⟩ = some (.string d2) := fun V h => (kq4.stay h).cell 5
  have E9 : Hid (Ext V4 V4) := Ext.refl _
  clear hkx hk4 kq4 hD E1 E2 E3 EF
  go_wp2_with fail
  refine ext_begin (by kernel_rfl) ?_
  have E9d := Lib.hid (Ext.drewR E9.out)
  refine ext_take (i := 0) (v := ?_) rfl (by kernel_rfl) (by kernel_rfl) (by kernel_rfl) (fun _ _ _ h => h) (by rfl) ?_ ?_
  rotate_left
  · intro W hW; have hW0 := Ext.trans E9d.out hW; clear hW; go_simp <;> with_reducible rfl
  try simp only [Act.put, List.setIfInBounds_toArray, List.set_cons_zero, List.set_cons_succ]
  refine ext_take (i := 1) (v := ?_) rfl (by kernel_rfl) (by kernel_rfl) (by kernel_rfl) (fun _ _ _ h => h) (by rfl) ?_ ?_
  rotate_left
  · intro W hW; have hW0 := Ext.trans E9d.out hW; clear hW; go_simp <;> with_reducible rfl
  try simp only [Act.put, List.setIfInBounds_toArray, List.set_cons_zero, List.set_cons_succ]
  refine ext_take (i := 2) (v := ?_) rfl (by kernel_rfl) (by kernel_rfl) (by kernel_rfl) (fun _ _ _ h => h) (by rfl) ?_ ?_
  rotate_left
  · intro W hW; have hW0 := Ext.trans E9d.out hW; clear hW; go_simp <;> with_reducible rfl
  try simp only [Act.put, List.setIfInBounds_toArray, List.set_cons_zero, List.set_cons_succ]
  refine ext_take (i := 3) (v := ?_) rfl (by kernel_rfl) (by kernel_rfl) (by kernel_rfl) (fun _ _ _ h => h) (by rfl) ?_ ?_
  rotate_left
  · intro W hW; have hW0 := Ext.trans E9d.out hW; clear hW; go_simp <;> with_reducible rfl
  try simp only [Act.put, List.setIfInBounds_toArray, List.set_cons_zero, List.set_cons_succ]
  refine ext_take (i := 4) (v := ?_) rfl (by kernel_rfl) (by kernel_rfl) (by kernel_rfl) (fun _ _ _ h => h) (by rfl) ?_ ?_
  rotate_left
  · intro W hW; have hW0 := Ext.trans E9d.out hW; clear hW; go_simp <;> with_reducible rfl
  try simp only [Act.put, List.setIfInBounds_toArray, List.set_cons_zero, List.set_cons_succ]
  refine ext_take (i := 5) (v := ?_) rfl (by kernel_rfl) (by kernel_rfl) (by kernel_rfl) (fun _ _ _ h => h) (by rfl) ?_ ?_
  rotate_left
  · intro W hW; have hW0 := Ext.trans E9d.out hW; clear hW; go_simp <;> with_reducible rfl
  try simp only [Act.put, List.setIfInBounds_toArray, List.set_cons_zero, List.set_cons_succ]
  refine ext_take (i := 6) (v := ?_) rfl (by kernel_rfl) (by kernel_rfl) (by kernel_rfl) (fun _ _ _ h => h) (by rfl) ?_ ?_
  rotate_left
  · intro W hW; have hW0 := Ext.trans E9d.out hW; clear hW; go_simp <;> with_reducible rfl
  try simp only [Act.put, List.setIfInBounds_toArray, List.set_cons_zero, List.set_cons_succ]
  refine ext_take (i := 7) (v := ?_) rfl (by kernel_rfl) (by kernel_rfl) (by kernel_rfl) (fun _ _ _ h => h) (by rfl) ?_ ?_
  rotate_left
  · intro W hW; have hW0 := Ext.trans E9d.out hW; clear hW; go_simp <;> with_reducible rfl
  try simp only [Act.put, List.setIfInBounds_toArray, List.set_cons_zero, List.set_cons_succ]
  refine ext_take (i := 8) (v := ?_) rfl (by kernel_rfl) (by kernel_rfl) (by kernel_rfl) (fun _ _ _ h => h) (by rfl) ?_ ?_
  rotate_left
  · intro W hW; have hW0 := Ext.trans E9d.out hW; clear hW; go_simp <;> with_reducible rfl
  try simp only [Act.put, List.setIfInBounds_toArray, List.set_cons_zero, List.set_cons_succ]
  refine ext_call (i := 9) rfl (by kernel_rfl) (by rfl) (fun K' hK => ?_)
  go_simp
  (go_at_call 44; (with_reducible refine (CW.out _).mono ?_); rintro e w8 ⟨rfl, hx⟩; refine hK _ _ hx ?_; clear hK)
  have Ew8 := Lib.hid (Ext.trans E9d.out hx)
  clear hx
  try simp only [Act.put, List.setIfInBounds_toArray, List.set_cons_zero, List.set_cons_succ]
  refine ext_call (i := 10) rfl (by kernel_rfl) (by rfl) (fun K' hK => ?_)
  go_simp
  (go_at_call 43; (with_reducible refine (CT.out _ Ew8.out).mono ?_); rintro e w9 ⟨rfl, hx⟩; refine hK _ _ hx ?_; clear hK)
  have Ew9 := Lib.hid (Ext.trans Ew8.out hx)
  clear hx
  try simp only [Act.put, List.setIfInBounds_toArray, List.set_cons_zero, List.set_cons_succ]
  refine ext_take (i := 11) (v := ?_) rfl (by kernel_rfl) (by kernel_rfl) (by kernel_rfl) (fun _ _ _ h => h) (by rfl) ?_ ?_
  rotate_left
  · intro W hW; have hW0 := Ext.trans Ew9.out hW; clear hW; go_simp <;> with_reducible rfl
  try simp only [Act.put, List.setIfInBounds_toArray, List.set_cons_zero, List.set_cons_succ]
  refine ext_take (i := 12) (v := ?_) rfl (by kernel_rfl) (by kernel_rfl) (by kernel_rfl) (fun _ _ _ h => h) (by rfl) ?_ ?_
  rotate_left
  · intro W hW; have hW0 := Ext.trans Ew9.out hW; clear hW; go_simp <;> with_reducible rfl
  try simp only [Act.put, List.setIfInBounds_toArray, List.set_cons_zero, List.set_cons_succ]
  refine wpAnyH_done (by kernel_rfl) ?_ _
  have EZ := Lib.hid Ew9.out
  clear Ew8 Ew9 E9d E9
  try go_wp2_with fail
  try go_ret
  exact HE.out _ EZ.out

end Go.Proofs.Ytnionfddejaalaa
