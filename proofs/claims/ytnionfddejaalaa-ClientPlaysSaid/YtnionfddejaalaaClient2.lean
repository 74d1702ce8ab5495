/-
  The client (law 21): New, Pending, Ask.
-/
import Derived.Test.YtnionfddejaalaaClient
namespace Go.Proofs.Ytnionfddejaalaa
set_option linter.unusedVariables false
set_option linter.unusedSimpArgs false
open Go.RowKit

theorem new_no (id n : Int) (w : World) (h : id < 0 ∨ 4 ≤ id ∨ n < 1 ∨ 5 < n) :
    Calls Try.prog 22 #[.int .i64 id, .int .i64 n] w fun e w' => e = .returned (.tuple #[.pointer none, .int .i64 1]) ∧ Ext w w' := by
  refine hide_post fun D hD => ?_
  by_cases h1 : id < 0
  · go_enter Try.func22, Try.ntmps22
    go_wp2_with fail
    try go_ret
    exact hD.out _ _ ⟨rfl, Ext.refl _⟩
  by_cases h2 : 4 ≤ id
  · go_enter Try.func22, Try.ntmps22
    go_wp2_with fail
    try go_ret
    exact hD.out _ _ ⟨rfl, Ext.refl _⟩
  by_cases h3 : n < 1
  · go_enter Try.func22, Try.ntmps22
    go_wp2_with fail
    try go_ret
    exact hD.out _ _ ⟨rfl, Ext.refl _⟩
  · have h4 : 5 < n := by omega
    go_enter Try.func22, Try.ntmps22
    go_wp2_with fail
    try go_ret
    exact hD.out _ _ ⟨rfl, Ext.refl _⟩
theorem new_yes (id n : Int) (w : World) (h1 : 0 ≤ id) (h2 : id ≤ 3) (h3 : 1 ≤ n) (h4 : n ≤ 5) :
    Calls Try.prog 22 #[.int .i64 id, .int .i64 n] w fun e w' => e = .returned (.tuple #[.pointer (some ⟨w.heap.size, 0, none⟩), .int .i64 0]) ∧ ClAt w.heap.size w' w.heap.size ⟨id, n, 0, 0, [], none⟩ ∧ Ext w w' := by
  refine hide_post fun D hD => ?_
  have hc : ClAt w.heap.size (w.alloc (.cells #[.int .i64 id, .int .i64 n, .int .i64 0, .int .i64 0, .slice none 0 0, .pointer none] 87)) w.heap.size ⟨id, n, 0, 0, [], none⟩ :=
    ⟨Nat.le_refl _, none, 0, _, Blk.new _ _ _, .inl ⟨rfl, rfl⟩, rfl⟩
  have HC := Lib.hid hc
  clear hc
  have q1 : ¬ id < 0 := by omega
  have q2 : ¬ 4 ≤ id := by omega
  have q3 : ¬ n < 1 := by omega
  have q4 : ¬ 5 < n := by omega
  go_enter Try.func22, Try.ntmps22
  go_wp2_with fail
  try go_ret
  exact hD.out _ _ ⟨rfl, HC.out, Ext.alloc _ _⟩

set_option maxHeartbeats 4000000 in
theorem pend_n (base P : Nat) (id n seq ep : Int) (ns : List Int) (w : World) (H : ClAt base w P ⟨id, n, seq, ep, ns, none⟩) :
    Calls Try.prog 32 #[.pointer (some ⟨P, 0, none⟩)] w fun e w' => e = .returned (.tuple #[.agg #[.int .i64 0, .int .i64 0, .int .i64 0, .int .i64 0, .int .i64 0, .string ⟨#[]⟩], .bool false]) ∧ Ext w w' := by
  refine hide_post fun D hD => ?_
  obtain ⟨hbP, A, cap, pv, kC, hk, hp⟩ := H
  obtain rfl : pv = .pointer none := hp
  generalize ns.length = N at *
  have a0 : ∀ o, (w.alloc o).cell? ⟨P, 0, none⟩ = some (.int .i64 id) := fun o => (kC.alloc o).cell 0
  have a1 : ∀ o, (w.alloc o).cell? ⟨P, 1, none⟩ = some (.int .i64 n) := fun o => (kC.alloc o).cell 1
  have a2 : ∀ o, (w.alloc o).cell? ⟨P, 2, none⟩ = some (.int .i64 seq) := fun o => (kC.alloc o).cell 2
  have a3 : ∀ o, (w.alloc o).cell? ⟨P, 3, none⟩ = some (.int .i64 ep) := fun o => (kC.alloc o).cell 3
  have a4 : ∀ o, (w.alloc o).cell? ⟨P, 4, none⟩ = some (.slice A N cap) := fun o => (kC.alloc o).cell 4
  have a5 : ∀ o, (w.alloc o).cell? ⟨P, 5, none⟩ = some ((.pointer none)) := fun o => (kC.alloc o).cell 5
  have k0 : (w.alloc (.cells #[.int .i64 0, .int .i64 0, .int .i64 0, .int .i64 0, .int .i64 0, .string ⟨#[]⟩] 29)).cell? ⟨w.heap.size, 0, none⟩ = some (.int .i64 0) := (Blk.new w 29 #[.int .i64 0, .int .i64 0, .int .i64 0, .int .i64 0, .int .i64 0, .string ⟨#[]⟩]).cell 0
  have k1 : (w.alloc (.cells #[.int .i64 0, .int .i64 0, .int .i64 0, .int .i64 0, .int .i64 0, .string ⟨#[]⟩] 29)).cell? ⟨w.heap.size, 1, none⟩ = some (.int .i64 0) := (Blk.new w 29 #[.int .i64 0, .int .i64 0, .int .i64 0, .int .i64 0, .int .i64 0, .string ⟨#[]⟩]).cell 1
  have k2 : (w.alloc (.cells #[.int .i64 0, .int .i64 0, .int .i64 0, .int .i64 0, .int .i64 0, .string ⟨#[]⟩] 29)).cell? ⟨w.heap.size, 2, none⟩ = some (.int .i64 0) := (Blk.new w 29 #[.int .i64 0, .int .i64 0, .int .i64 0, .int .i64 0, .int .i64 0, .string ⟨#[]⟩]).cell 2
  have k3 : (w.alloc (.cells #[.int .i64 0, .int .i64 0, .int .i64 0, .int .i64 0, .int .i64 0, .string ⟨#[]⟩] 29)).cell? ⟨w.heap.size, 3, none⟩ = some (.int .i64 0) := (Blk.new w 29 #[.int .i64 0, .int .i64 0, .int .i64 0, .int .i64 0, .int .i64 0, .string ⟨#[]⟩]).cell 3
  have k4 : (w.alloc (.cells #[.int .i64 0, .int .i64 0, .int .i64 0, .int .i64 0, .int .i64 0, .string ⟨#[]⟩] 29)).cell? ⟨w.heap.size, 4, none⟩ = some (.int .i64 0) := (Blk.new w 29 #[.int .i64 0, .int .i64 0, .int .i64 0, .int .i64 0, .int .i64 0, .string ⟨#[]⟩]).cell 4
  have k5 : (w.alloc (.cells #[.int .i64 0, .int .i64 0, .int .i64 0, .int .i64 0, .int .i64 0, .string ⟨#[]⟩] 29)).cell? ⟨w.heap.size, 5, none⟩ = some (.string ⟨#[]⟩) := (Blk.new w 29 #[.int .i64 0, .int .i64 0, .int .i64 0, .int .i64 0, .int .i64 0, .string ⟨#[]⟩]).cell 5
  clear hk kC 
  go_enter Try.func32, Try.ntmps32
  go_wp2_with fail
  try go_ret
  exact bodyPost_ret (v := .tuple #[.agg #[.int .i64 0, .int .i64 0, .int .i64 0, .int .i64 0, .int .i64 0, .string ⟨#[]⟩], .bool false]) (by simp [results, Try.results32, go_sem, k0, k1, k2, k3, k4, k5]) rfl (hD.out _ _ ⟨rfl, Ext.alloc _ _⟩)

set_option maxHeartbeats 4000000 in
theorem pend_s (base P : Nat) (id n seq ep : Int) (ns : List Int) (c s k i m : Int) (d : ByteArray) (ak tr : Int) (w : World) (H : ClAt base w P ⟨id, n, seq, ep, ns, (some ⟨c, s, k, i, m, d, ak, tr⟩)⟩) :
    Calls Try.prog 32 #[.pointer (some ⟨P, 0, none⟩)] w fun e w' => e = .returned (.tuple #[.agg #[.int .i64 c, .int .i64 s, .int .i64 k, .int .i64 i, .int .i64 m, .string d], .bool true]) ∧ Ext w w' := by
  refine hide_post fun D hD => ?_
  obtain ⟨hbP, A, cap, pv, kC, hk, hp⟩ := H
  obtain ⟨pp, hpp, rfl, kP⟩ := hp
  have kP' : Blk w pp 89 #[.int .i64 c, .int .i64 s, .int .i64 k, .int .i64 i, .int .i64 m, .string d, .int .i64 ak, .int .i64 tr] := kP
  generalize ns.length = N at *
  have a0 : ∀ o, (w.alloc o).cell? ⟨P, 0, none⟩ = some (.int .i64 id) := fun o => (kC.alloc o).cell 0
  have a1 : ∀ o, (w.alloc o).cell? ⟨P, 1, none⟩ = some (.int .i64 n) := fun o => (kC.alloc o).cell 1
  have a2 : ∀ o, (w.alloc o).cell? ⟨P, 2, none⟩ = some (.int .i64 seq) := fun o => (kC.alloc o).cell 2
  have a3 : ∀ o, (w.alloc o).cell? ⟨P, 3, none⟩ = some (.int .i64 ep) := fun o => (kC.alloc o).cell 3
  have a4 : ∀ o, (w.alloc o).cell? ⟨P, 4, none⟩ = some (.slice A N cap) := fun o => (kC.alloc o).cell 4
  have a5 : ∀ o, (w.alloc o).cell? ⟨P, 5, none⟩ = some ((.pointer (some ⟨pp, 0, none⟩))) := fun o => (kC.alloc o).cell 5
  have b0 : ∀ o, (w.alloc o).cell? ⟨pp, 0, none⟩ = some (.int .i64 c) := fun o => (kP'.alloc o).cell 0
  have b1 : ∀ o, (w.alloc o).cell? ⟨pp, 1, none⟩ = some (.int .i64 s) := fun o => (kP'.alloc o).cell 1
  have b2 : ∀ o, (w.alloc o).cell? ⟨pp, 2, none⟩ = some (.int .i64 k) := fun o => (kP'.alloc o).cell 2
  have b3 : ∀ o, (w.alloc o).cell? ⟨pp, 3, none⟩ = some (.int .i64 i) := fun o => (kP'.alloc o).cell 3
  have b4 : ∀ o, (w.alloc o).cell? ⟨pp, 4, none⟩ = some (.int .i64 m) := fun o => (kP'.alloc o).cell 4
  have b5 : ∀ o, (w.alloc o).cell? ⟨pp, 5, none⟩ = some (.string d) := fun o => (kP'.alloc o).cell 5
  have b6 : ∀ o, (w.alloc o).cell? ⟨pp, 6, none⟩ = some (.int .i64 ak) := fun o => (kP'.alloc o).cell 6
  have b7 : ∀ o, (w.alloc o).cell? ⟨pp, 7, none⟩ = some (.int .i64 tr) := fun o => (kP'.alloc o).cell 7
  have k0 : (w.alloc (.cells #[.int .i64 c, .int .i64 s, .int .i64 k, .int .i64 i, .int .i64 m, .string d] 29)).cell? ⟨w.heap.size, 0, none⟩ = some (.int .i64 c) := (Blk.new w 29 #[.int .i64 c, .int .i64 s, .int .i64 k, .int .i64 i, .int .i64 m, .string d]).cell 0
  have k1 : (w.alloc (.cells #[.int .i64 c, .int .i64 s, .int .i64 k, .int .i64 i, .int .i64 m, .string d] 29)).cell? ⟨w.heap.size, 1, none⟩ = some (.int .i64 s) := (Blk.new w 29 #[.int .i64 c, .int .i64 s, .int .i64 k, .int .i64 i, .int .i64 m, .string d]).cell 1
  have k2 : (w.alloc (.cells #[.int .i64 c, .int .i64 s, .int .i64 k, .int .i64 i, .int .i64 m, .string d] 29)).cell? ⟨w.heap.size, 2, none⟩ = some (.int .i64 k) := (Blk.new w 29 #[.int .i64 c, .int .i64 s, .int .i64 k, .int .i64 i, .int .i64 m, .string d]).cell 2
  have k3 : (w.alloc (.cells #[.int .i64 c, .int .i64 s, .int .i64 k, .int .i64 i, .int .i64 m, .string d] 29)).cell? ⟨w.heap.size, 3, none⟩ = some (.int .i64 i) := (Blk.new w 29 #[.int .i64 c, .int .i64 s, .int .i64 k, .int .i64 i, .int .i64 m, .string d]).cell 3
  have k4 : (w.alloc (.cells #[.int .i64 c, .int .i64 s, .int .i64 k, .int .i64 i, .int .i64 m, .string d] 29)).cell? ⟨w.heap.size, 4, none⟩ = some (.int .i64 m) := (Blk.new w 29 #[.int .i64 c, .int .i64 s, .int .i64 k, .int .i64 i, .int .i64 m, .string d]).cell 4
  have k5 : (w.alloc (.cells #[.int .i64 c, .int .i64 s, .int .i64 k, .int .i64 i, .int .i64 m, .string d] 29)).cell? ⟨w.heap.size, 5, none⟩ = some (.string d) := (Blk.new w 29 #[.int .i64 c, .int .i64 s, .int .i64 k, .int .i64 i, .int .i64 m, .string d]).cell 5
  clear hk kC kP kP'
  go_enter Try.func32, Try.ntmps32
  go_wp2_with fail
  try go_ret
  exact bodyPost_ret (v := .tuple #[.agg #[.int .i64 c, .int .i64 s, .int .i64 k, .int .i64 i, .int .i64 m, .string d], .bool true]) (by simp [results, Try.results32, go_sem, k0, k1, k2, k3, k4, k5]) rfl (hD.out _ _ ⟨rfl, Ext.alloc _ _⟩)

set_option maxRecDepth 8000 in
set_option maxHeartbeats 8000000 in
theorem ask_any (base P : Nat) (id n seq ep : Int) (ns : List Int) (p : Option Pd) (now : Int) (qc qs k i m : Int) (d : ByteArray) (w : World) (H : ClAt base w P ⟨id, n, seq, ep, ns, p⟩) (hd : d.size ≤ maxLen) (hns : ns.length ≤ 1000) (hs0 : 0 ≤ seq) (hs1 : seq ≤ 1073741824) :
    Calls Try.prog 24 #[.pointer (some ⟨P, 0, none⟩), .int .i64 now, .agg #[.int .i64 qc, .int .i64 qs, .int .i64 k, .int .i64 i, .int .i64 m, .string d]] w fun e w' =>
      (∃ a f : Int, e = .returned (.tuple #[.int .i64 a, .int .i64 f]) ∧ Kt base w w' ∧ ((((mayReqB id (seq + 1) k i m d.size = false ∨ now < 0 ∨ 1099511627776 < now) ∧ f = 1 ∨ mayReqB id (seq + 1) k i m d.size = true ∧ 0 ≤ now ∧ now ≤ 1099511627776 ∧ p ≠ none ∧ f = 4) ∧ a = 0 ∧ ClAt base w' P ⟨id, n, seq, ep, ns, p⟩) ∨
        (mayReqB id (seq + 1) k i m d.size = true ∧ 0 ≤ now ∧ now ≤ 1099511627776 ∧ p = none ∧ f = 0 ∧ a = targetF ns n 1 (decide (k = 1 ∨ k = 2 ∨ k = 3)) ∧ ClAt base w' P ⟨id, n, seq + 1, ep, ns, some ⟨id, seq + 1, k, i, m, d, now, 1⟩⟩))) := by
  refine hide_post fun D hD => ?_
  have HB : Hid (base ≤ w.heap.size) := H.lt
  obtain ⟨hbP, A, cap, pv, kC, hk, hp⟩ := H
  obtain ⟨N, hN⟩ : ∃ N, N = ns.length := ⟨_, rfl⟩
  obtain ⟨s1, hs⟩ : ∃ s1, s1 = seq + 1 := ⟨_, rfl⟩
  have hws : wrap64 (seq + 1) = s1 := by rw [hs]; unfold wrap64; omega
  have hws2 : IntKind.i64.wrap (seq + 1) = s1 := by rw [hs]; unfold IntKind.wrap; simp [IntKind.bits, IntKind.signed]; omega
  have kC' : Blk w P 87 #[.int .i64 id, .int .i64 n, .int .i64 seq, .int .i64 ep, .slice A N cap, pv] := by rw [hN]; exact kC
  rw [← hs] at hD
  obtain ⟨h0, hh0⟩ : ∃ h0, h0 = w.heap.size := ⟨_, rfl⟩
  obtain ⟨W0, hW0⟩ : ∃ W0, W0 = w.alloc (.cells #[.int .i64 qc, .int .i64 qs, .int .i64 k, .int .i64 i, .int .i64 m, .string d] 29) := ⟨_, rfl⟩
  have kq : Blk W0 h0 29 #[.int .i64 qc, .int .i64 qs, .int .i64 k, .int .i64 i, .int .i64 m, .string d] := by rw [hW0, hh0]; exact Blk.new _ _ _
  have hx0 : Ext w W0 := by rw [hW0]; exact Ext.alloc _ _
  have kC0 := kC'.stay hx0
  have hne : P ≠ h0 := by have := kC.lt; omega
  have fz0 : ∀ V, Frm (fun k => k = h0) W0 V → V.cell? ⟨P, 0, none⟩ = some (.int .i64 id) := fun V h => (kC0.frm h hne).cell 0
  have fz1 : ∀ V, Frm (fun k => k = h0) W0 V → V.cell? ⟨P, 1, none⟩ = some (.int .i64 n) := fun V h => (kC0.frm h hne).cell 1
  have fz2 : ∀ V, Frm (fun k => k = h0) W0 V → V.cell? ⟨P, 2, none⟩ = some (.int .i64 seq) := fun V h => (kC0.frm h hne).cell 2
  have fz3 : ∀ V, Frm (fun k => k = h0) W0 V → V.cell? ⟨P, 3, none⟩ = some (.int .i64 ep) := fun V h => (kC0.frm h hne).cell 3
  have fz4 : ∀ V, Frm (fun k => k = h0) W0 V → V.cell? ⟨P, 4, none⟩ = some (.slice A N cap) := fun V h => (kC0.frm h hne).cell 4
  have fz5 : ∀ V, Frm (fun k => k = h0) W0 V → V.cell? ⟨P, 5, none⟩ = some (pv) := fun V h => (kC0.frm h hne).cell 5
  have e0 := fz0 W0 (Frm.refl _ _)
  have HW0 := Lib.hid (And.intro hW0 hh0)
  have HKQ := Lib.hid kq
  have HKC := Lib.hid kC'
  have HX0 := Lib.hid hx0
  have HNE : Hid (P ≠ h0) := hne
  have HK := Lib.hid hk
  have HP := Lib.hid hp
  have HBP : Hid (base ≤ P) := hbP
  have HN := Lib.hid hN
  have HNS : Hid (ns.length ≤ 1000) := hns
  have HH : Hid (h0 = w.heap.size) := hh0
  clear kC kC' kC0 kq hW0 hx0 hh0 hk hp hbP hN hne hs hns e0
  go_enter Try.func24, Try.ntmps24
  go_wp2_with fail
  rw [← HW0.out.2, ← HW0.out.1]
  have E0 : Hid (Frm (fun k => k = h0) W0 W0.drew) := (Frm.refl _ _).drew
  refine rz_begin (fun k => k = h0) [] (by kernel_rfl) ?_
  refine rz_take [1, 2, 3, 9, 10, 11, 12] (i := 0) (v := ?_) rfl (by kernel_rfl) (by kernel_rfl) (by kernel_rfl) (by kernel_rfl) (by kernel_rfl) (by kernel_rfl) (fun _ _ _ h => h) (by rfl) ?_ ?_
  rotate_left
  · intro W hW; have hW0 := Frm.tr E0.out hW; clear hW; go_simp <;> with_reducible rfl
  try simp only [Act.put, List.setIfInBounds_toArray, List.set_cons_zero, List.set_cons_succ]
  refine rz_take [2, 3, 9, 10, 11, 12] (i := 1) (v := ?_) rfl (by kernel_rfl) (by kernel_rfl) (by kernel_rfl) (by kernel_rfl) (by kernel_rfl) (by kernel_rfl) (fun _ _ _ h => h) (by rfl) ?_ ?_
  rotate_left
  · intro W hW; have hW0 := Frm.tr E0.out hW; clear hW; go_simp <;> with_reducible rfl
  try simp only [Act.put, List.setIfInBounds_toArray, List.set_cons_zero, List.set_cons_succ]
  refine rz_take [3, 9, 10, 11, 12] (i := 2) (v := ?_) rfl (by kernel_rfl) (by kernel_rfl) (by kernel_rfl) (by kernel_rfl) (by kernel_rfl) (by kernel_rfl) (fun _ _ _ h => h) (by rfl) ?_ ?_
  rotate_left
  · intro W hW; have hW0 := Frm.tr E0.out hW; clear hW; go_simp <;> with_reducible rfl
  try simp only [Act.put, List.setIfInBounds_toArray, List.set_cons_zero, List.set_cons_succ]
  refine rz_take [9, 10, 11, 12] (i := 3) (v := ?_) rfl (by kernel_rfl) (by kernel_rfl) (by kernel_rfl) (by kernel_rfl) (by kernel_rfl) (by kernel_rfl) (fun _ _ _ h => h) (by rfl) ?_ ?_
  rotate_left
  · intro W hW; have hW0 := Frm.tr E0.out hW; clear hW; go_simp <;> with_reducible rfl
  try simp only [Act.put, List.setIfInBounds_toArray, List.set_cons_zero, List.set_cons_succ]
  refine rz_take [5, 6, 7, 8, 11, 12] (i := 4) (v := ?_) rfl (by kernel_rfl) (by kernel_rfl) (by kernel_rfl) (by kernel_rfl) (by kernel_rfl) (by kernel_rfl) (fun _ _ _ h => h) (by rfl) ?_ ?_
  rotate_left
  · intro W hW; have hW0 := Frm.tr E0.out hW; clear hW; go_simp <;> with_reducible rfl
  try simp only [Act.put, List.setIfInBounds_toArray, List.set_cons_zero, List.set_cons_succ]
  refine rz_take [6, 7, 8, 11, 12] (i := 5) (v := ?_) rfl (by kernel_rfl) (by kernel_rfl) (by kernel_rfl) (by kernel_rfl) (by kernel_rfl) (by kernel_rfl) (fun _ _ _ h => h) (by rfl) ?_ ?_
  rotate_left
  · intro W hW; have hW0 := Frm.tr E0.out hW; clear hW; go_simp <;> with_reducible rfl
  try simp only [Act.put, List.setIfInBounds_toArray, List.set_cons_zero, List.set_cons_succ]
  refine rz_take [7, 8, 11, 12] (i := 6) (v := ?_) rfl (by kernel_rfl) (by kernel_rfl) (by kernel_rfl) (by kernel_rfl) (by kernel_rfl) (by kernel_rfl) (fun _ _ _ h => h) (by rfl) ?_ ?_
  rotate_left
  · intro W hW; have hW0 := Frm.tr E0.out hW; clear hW; go_simp <;> with_reducible rfl
  try simp only [Act.put, List.setIfInBounds_toArray, List.set_cons_zero, List.set_cons_succ]
  refine rz_take [8, 11, 12] (i := 7) (v := ?_) rfl (by kernel_rfl) (by kernel_rfl) (by kernel_rfl) (by kernel_rfl) (by kernel_rfl) (by kernel_rfl) (fun _ _ _ h => h) (by rfl) ?_ ?_
  rotate_left
  · intro W hW; have hW0 := Frm.tr E0.out hW; clear hW; go_simp <;> with_reducible rfl
  try simp only [Act.put, List.setIfInBounds_toArray, List.set_cons_zero, List.set_cons_succ]
  refine rz_take [11, 12] (i := 8) (v := .int .i64 s1) rfl (by kernel_rfl) (by kernel_rfl) (by kernel_rfl) (by kernel_rfl) (by kernel_rfl) (by kernel_rfl) (fun _ _ _ h => h) (by rfl) ?_ ?_
  · intro W hW; have hW0 := Frm.tr E0.out hW; clear hW; go_simp; all_goals (first | done | exact hws2 | (rw [hws2]; done) | (simp [hws2]; done))
  try simp only [Act.put, List.setIfInBounds_toArray, List.set_cons_zero, List.set_cons_succ]
  refine rz_take [10, 11, 12] (i := 9) (v := ?_) rfl (by kernel_rfl) (by kernel_rfl) (by kernel_rfl) (by kernel_rfl) (by kernel_rfl) (by kernel_rfl) (fun _ _ _ h => h) (by rfl) ?_ ?_
  rotate_left
  · intro W hW; have hW0 := Frm.tr E0.out hW; clear hW; go_simp <;> with_reducible rfl
  try simp only [Act.put, List.setIfInBounds_toArray, List.set_cons_zero, List.set_cons_succ]
  refine rz_call (i := 10) rfl (by kernel_rfl) (by rfl) (fun K hK => ?_)
  have q1 := HKQ.out.drew.frozen 0
  have r1 := HKQ.out.drew.cell 0
  simp at r1
  go_simp
  refine hK _ _ (Frm.of_set _ _ _ rfl) ?_; clear hK K q1 r1
  obtain ⟨W1, hW1⟩ : ∃ W1, W1 = (W0.setCell ⟨h0, 0, none⟩ (.int .i64 id)).drew := ⟨_, rfl⟩
  have KQ1 : Hid (Blk W1 h0 29 #[.int .i64 id, .int .i64 qs, .int .i64 k, .int .i64 i, .int .i64 m, .string d]) := by (show Blk _ _ _ _); rw [hW1]; exact HKQ.out.drew.set 0 _
  have E1 : Hid (Frm (fun k => k = h0) W0 W1) := by (show Frm _ _ _); rw [hW1]; exact Frm.drew (Frm.of_set (s := fun k => k = h0) _ _ _ rfl)
  rw [← hW1]
  clear hW1
  try simp only [Act.put, List.setIfInBounds_toArray, List.set_cons_zero, List.set_cons_succ]
  refine rz_take [12] (i := 11) (v := ?_) rfl (by kernel_rfl) (by kernel_rfl) (by kernel_rfl) (by kernel_rfl) (by kernel_rfl) (by kernel_rfl) (fun _ _ _ h => h) (by rfl) ?_ ?_
  rotate_left
  · intro W hW; have hW0 := Frm.tr E1.out hW; clear hW; go_simp <;> with_reducible rfl
  try simp only [Act.put, List.setIfInBounds_toArray, List.set_cons_zero, List.set_cons_succ]
  refine rz_call (i := 12) rfl (by kernel_rfl) (by rfl) (fun K hK => ?_)
  have q2 := KQ1.out.frozen 1
  have r2 := KQ1.out.cell 1
  simp at r2
  go_simp
  refine hK _ _ (Frm.of_set _ _ _ rfl) ?_; clear hK K q2 r2
  obtain ⟨W2, hW2⟩ : ∃ W2, W2 = W1.setCell ⟨h0, 1, none⟩ (.int .i64 s1) := ⟨_, rfl⟩
  have KQ2 : Hid (Blk W2 h0 29 #[.int .i64 id, .int .i64 s1, .int .i64 k, .int .i64 i, .int .i64 m, .string d]) := by (show Blk _ _ _ _); rw [hW2]; exact KQ1.out.set 1 _
  have E2 : Hid (Frm (fun k => k = h0) W0 W2) := by (show Frm _ _ _); rw [hW2]; exact Frm.tr E1.out (Frm.of_set _ _ _ rfl)
  rw [← hW2]
  clear hW2
  try simp only [Act.put, List.setIfInBounds_toArray, List.set_cons_zero, List.set_cons_succ]
  refine rz_done (by kernel_rfl) ?_ _
  have X2 : Hid (Ext w W2) := by (show Below _ _ _); exact Frm.step HX0.out E2.out HX0.out.size (fun k hk => by rw [hk, HH.out]; exact Nat.le_refl _)
  have HKP2 : Hid (Blk W2 P 87 #[.int .i64 id, .int .i64 n, .int .i64 seq, .int .i64 ep, .slice A N cap, pv]) := HKC.out.stay X2.out
  have HNE2 : Hid (P < W2.heap.size) := HKP2.out.lt
  have CM : Hid (∀ V, Ext W2 V → Calls Try.prog 35 #[.agg #[.int .i64 id, .int .i64 s1, .int .i64 k, .int .i64 i, .int .i64 m, .string d]] V fun e w' => e = .returned (.bool (mayReqB id s1 k i m d.size)) ∧ Ext V w') := fun V _ => mayReq_any id s1 k i m d V hd
  have HTRY : Hid (∀ V, ClAt base V P ⟨id, n, s1, ep, ns, some ⟨id, s1, k, i, m, d, 0, 0⟩⟩ → Calls Try.prog 42 #[.pointer (some ⟨P, 0, none⟩), .int .i64 now] V fun e w' => e = .returned (.int .i64 (targetF ns n 1 (decide (k = 1 ∨ k = 2 ∨ k = 3)))) ∧ ClAt base w' P ⟨id, n, s1, ep, ns, some ⟨id, s1, k, i, m, d, now, 1⟩⟩ ∧ Kt base V w') := fun V hV => try_any base P id n s1 ep ns id s1 k i m d 0 0 now 1 V hV HNS.out (by omega) (by omega) rfl
  clear fz0 fz1 fz2 fz3 fz4 fz5 E2 KQ1 E1 HX0 HW0 HKQ hd
  have u0 := KQ2.out.cell 0
  have u1 := KQ2.out.cell 1
  have u2 := KQ2.out.cell 2
  have u3 := KQ2.out.cell 3
  have u4 := KQ2.out.cell 4
  have u5 := KQ2.out.cell 5
  simp at u0 u1 u2 u3 u4 u5
  generalize mayReqB id s1 k i m d.size = B at *
  cases B with
  | false =>
    have HF : Hid (∀ V, Ext w V → D (.returned (.tuple #[.int .i64 0, .int .i64 1])) V) := fun V hV => hD.out _ _ ⟨0, 1, rfl, Kt.ext hV HB.out, .inl ⟨.inl ⟨.inl rfl, rfl⟩, rfl, HBP.out, A, cap, pv, by rw [← HN.out]; exact HKC.out.stay hV, HK.out.stay hV, HP.out.stay hV⟩⟩
    clear hD
    go_wp2_with (go_at_call 35; (with_reducible refine (CM.out _ (Ext.refl _)).mono ?_); rintro e w5 ⟨rfl, hx⟩; have X5 : Hid (Ext W2 w5) := hx; have kc5 := HKP2.out.stay hx; have kq5 := KQ2.out.stay hx; have g0 := kc5.cell 0; have g1 := kc5.cell 1; have g2 := kc5.cell 2; have g3 := kc5.cell 3; have g4 := kc5.cell 4; have g5 := kc5.cell 5; simp at g0 g1 g2 g3 g4 g5; have gf := kc5.frozen 2; have kc6 := kc5.set 2 (.int .i64 s1); have kq6 := kq5.far (p := ⟨P, 2, none⟩) (Ne.symm HNE.out) (.int .i64 s1); have y0 := kq6.cell 0; have y1 := kq6.cell 1; have y2 := kq6.cell 2; have y3 := kq6.cell 3; have y4 := kq6.cell 4; have y5 := kq6.cell 5; simp at y0 y1 y2 y3 y4 y5; have HKC5 := Lib.hid kc5; have HKC6 := Lib.hid kc6; have HKQ6 := Lib.hid kq6; have hkc7 : ∀ o, ((w5.setCell ⟨P, 2, none⟩ (.int .i64 s1)).alloc o).cell? ⟨P, 5, none⟩ = some pv := (fun o => (kc6.alloc o).cell 5); have hkf7 : ∀ o, ((w5.setCell ⟨P, 2, none⟩ (.int .i64 s1)).alloc o).frozen? ⟨P, 5, none⟩ = false := (fun o => (kc6.alloc o).frozen 5); clear hx kc5 kq5 kc6 kq6)
    try go_ret
    exact HF.out _ (Ext.trans X2.out X5.out)
  | true =>
    by_cases h1 : now < 0
    · have HF : Hid (∀ V, Ext w V → D (.returned (.tuple #[.int .i64 0, .int .i64 1])) V) := fun V hV => hD.out _ _ ⟨0, 1, rfl, Kt.ext hV HB.out, .inl ⟨.inl ⟨.inr (.inl h1), rfl⟩, rfl, HBP.out, A, cap, pv, by rw [← HN.out]; exact HKC.out.stay hV, HK.out.stay hV, HP.out.stay hV⟩⟩
      clear hD
      go_wp2_with (go_at_call 35; (with_reducible refine (CM.out _ (Ext.refl _)).mono ?_); rintro e w5 ⟨rfl, hx⟩; have X5 : Hid (Ext W2 w5) := hx; have kc5 := HKP2.out.stay hx; have kq5 := KQ2.out.stay hx; have g0 := kc5.cell 0; have g1 := kc5.cell 1; have g2 := kc5.cell 2; have g3 := kc5.cell 3; have g4 := kc5.cell 4; have g5 := kc5.cell 5; simp at g0 g1 g2 g3 g4 g5; have gf := kc5.frozen 2; have kc6 := kc5.set 2 (.int .i64 s1); have kq6 := kq5.far (p := ⟨P, 2, none⟩) (Ne.symm HNE.out) (.int .i64 s1); have y0 := kq6.cell 0; have y1 := kq6.cell 1; have y2 := kq6.cell 2; have y3 := kq6.cell 3; have y4 := kq6.cell 4; have y5 := kq6.cell 5; simp at y0 y1 y2 y3 y4 y5; have HKC5 := Lib.hid kc5; have HKC6 := Lib.hid kc6; have HKQ6 := Lib.hid kq6; have hkc7 : ∀ o, ((w5.setCell ⟨P, 2, none⟩ (.int .i64 s1)).alloc o).cell? ⟨P, 5, none⟩ = some pv := (fun o => (kc6.alloc o).cell 5); have hkf7 : ∀ o, ((w5.setCell ⟨P, 2, none⟩ (.int .i64 s1)).alloc o).frozen? ⟨P, 5, none⟩ = false := (fun o => (kc6.alloc o).frozen 5); clear hx kc5 kq5 kc6 kq6)
      try go_ret
      exact HF.out _ (Ext.trans X2.out X5.out)
    by_cases h2 : 1099511627776 < now
    · have HF : Hid (∀ V, Ext w V → D (.returned (.tuple #[.int .i64 0, .int .i64 1])) V) := fun V hV => hD.out _ _ ⟨0, 1, rfl, Kt.ext hV HB.out, .inl ⟨.inl ⟨.inr (.inr h2), rfl⟩, rfl, HBP.out, A, cap, pv, by rw [← HN.out]; exact HKC.out.stay hV, HK.out.stay hV, HP.out.stay hV⟩⟩
      clear hD
      go_wp2_with (go_at_call 35; (with_reducible refine (CM.out _ (Ext.refl _)).mono ?_); rintro e w5 ⟨rfl, hx⟩; have X5 : Hid (Ext W2 w5) := hx; have kc5 := HKP2.out.stay hx; have kq5 := KQ2.out.stay hx; have g0 := kc5.cell 0; have g1 := kc5.cell 1; have g2 := kc5.cell 2; have g3 := kc5.cell 3; have g4 := kc5.cell 4; have g5 := kc5.cell 5; simp at g0 g1 g2 g3 g4 g5; have gf := kc5.frozen 2; have kc6 := kc5.set 2 (.int .i64 s1); have kq6 := kq5.far (p := ⟨P, 2, none⟩) (Ne.symm HNE.out) (.int .i64 s1); have y0 := kq6.cell 0; have y1 := kq6.cell 1; have y2 := kq6.cell 2; have y3 := kq6.cell 3; have y4 := kq6.cell 4; have y5 := kq6.cell 5; simp at y0 y1 y2 y3 y4 y5; have HKC5 := Lib.hid kc5; have HKC6 := Lib.hid kc6; have HKQ6 := Lib.hid kq6; have hkc7 : ∀ o, ((w5.setCell ⟨P, 2, none⟩ (.int .i64 s1)).alloc o).cell? ⟨P, 5, none⟩ = some pv := (fun o => (kc6.alloc o).cell 5); have hkf7 : ∀ o, ((w5.setCell ⟨P, 2, none⟩ (.int .i64 s1)).alloc o).frozen? ⟨P, 5, none⟩ = false := (fun o => (kc6.alloc o).frozen 5); clear hx kc5 kq5 kc6 kq6)
      try go_ret
      exact HF.out _ (Ext.trans X2.out X5.out)
    cases p with
    | some q =>
      obtain ⟨pp, hpp, rfl, kP⟩ := HP.out
      have HP' : Hid (PdAt base w (.pointer (some ⟨pp, 0, none⟩)) (some q)) := ⟨pp, hpp, rfl, kP⟩
      clear HP kP
      have HF : Hid (∀ V, Ext w V → D (.returned (.tuple #[.int .i64 0, .int .i64 4])) V) := fun V hV => hD.out _ _ ⟨0, 4, rfl, Kt.ext hV HB.out, .inl ⟨.inr ⟨rfl, by omega, by omega, by simp, rfl⟩, rfl, HBP.out, A, cap, _, by rw [← HN.out]; exact HKC.out.stay hV, HK.out.stay hV, HP'.out.stay hV⟩⟩
      clear hD
      go_wp2_with (go_at_call 35; (with_reducible refine (CM.out _ (Ext.refl _)).mono ?_); rintro e w5 ⟨rfl, hx⟩; have X5 : Hid (Ext W2 w5) := hx; have kc5 := HKP2.out.stay hx; have kq5 := KQ2.out.stay hx; have g0 := kc5.cell 0; have g1 := kc5.cell 1; have g2 := kc5.cell 2; have g3 := kc5.cell 3; have g4 := kc5.cell 4; have g5 := kc5.cell 5; simp at g0 g1 g2 g3 g4 g5; have gf := kc5.frozen 2; have kc6 := kc5.set 2 (.int .i64 s1); have kq6 := kq5.far (p := ⟨P, 2, none⟩) (Ne.symm HNE.out) (.int .i64 s1); have y0 := kq6.cell 0; have y1 := kq6.cell 1; have y2 := kq6.cell 2; have y3 := kq6.cell 3; have y4 := kq6.cell 4; have y5 := kq6.cell 5; simp at y0 y1 y2 y3 y4 y5; have HKC5 := Lib.hid kc5; have HKC6 := Lib.hid kc6; have HKQ6 := Lib.hid kq6; have hkc7 : ∀ o, ((w5.setCell ⟨P, 2, none⟩ (.int .i64 s1)).alloc o).cell? ⟨P, 5, none⟩ = some (.pointer (some ⟨pp, 0, none⟩)) := (fun o => (kc6.alloc o).cell 5); have hkf7 : ∀ o, ((w5.setCell ⟨P, 2, none⟩ (.int .i64 s1)).alloc o).frozen? ⟨P, 5, none⟩ = false := (fun o => (kc6.alloc o).frozen 5); clear hx kc5 kq5 kc6 kq6)
      try go_ret
      exact HF.out _ (Ext.trans X2.out X5.out)
    | none =>
      obtain rfl : pv = .pointer none := HP.out
      have HF : Hid (∀ V e, e = .returned (.tuple #[.int .i64 (targetF ns n 1 (decide (k = 1 ∨ k = 2 ∨ k = 3))), .int .i64 0]) → Kt base w V → ClAt base V P ⟨id, n, s1, ep, ns, some ⟨id, s1, k, i, m, d, now, 1⟩⟩ → D e V) := fun V e he h3 h4 => hD.out _ _ ⟨_, 0, he, h3, .inr ⟨rfl, by omega, by omega, rfl, rfl, rfl, h4⟩⟩
      clear hD
      generalize targetF ns n 1 (decide (k = 1 ∨ k = 2 ∨ k = 3)) = r at *
      go_wp2_with (go_at_call 35; (with_reducible refine (CM.out _ (Ext.refl _)).mono ?_); rintro e w5 ⟨rfl, hx⟩; have X5 : Hid (Ext W2 w5) := hx; have kc5 := HKP2.out.stay hx; have kq5 := KQ2.out.stay hx; have g0 := kc5.cell 0; have g1 := kc5.cell 1; have g2 := kc5.cell 2; have g3 := kc5.cell 3; have g4 := kc5.cell 4; have g5 := kc5.cell 5; simp at g0 g1 g2 g3 g4 g5; have gf := kc5.frozen 2; have kc6 := kc5.set 2 (.int .i64 s1); have kq6 := kq5.far (p := ⟨P, 2, none⟩) (Ne.symm HNE.out) (.int .i64 s1); have y0 := kq6.cell 0; have y1 := kq6.cell 1; have y2 := kq6.cell 2; have y3 := kq6.cell 3; have y4 := kq6.cell 4; have y5 := kq6.cell 5; simp at y0 y1 y2 y3 y4 y5; have HKC5 := Lib.hid kc5; have HKC6 := Lib.hid kc6; have HKQ6 := Lib.hid kq6; have hkc7 : ∀ o, ((w5.setCell ⟨P, 2, none⟩ (.int .i64 s1)).alloc o).cell? ⟨P, 5, none⟩ = some (.pointer none) := (fun o => (kc6.alloc o).cell 5); have hkf7 : ∀ o, ((w5.setCell ⟨P, 2, none⟩ (.int .i64 s1)).alloc o).frozen? ⟨P, 5, none⟩ = false := (fun o => (kc6.alloc o).frozen 5); clear hx kc5 kq5 kc6 kq6)
      obtain ⟨W8, hW8⟩ : ∃ W8, W8 = (((w5.setCell ⟨P, 2, none⟩ (.int .i64 s1)).alloc (.cells #[.int .i64 id, .int .i64 s1, .int .i64 k, .int .i64 i, .int .i64 m, .string d, .int .i64 0, .int .i64 0] 89)).setCell ⟨P, 5, none⟩ (.pointer (some ⟨w5.heap.size, 0, none⟩))) := ⟨_, rfl⟩
      rw [← hW8]
      have hsz : (w5.setCell ⟨P, 2, none⟩ (.int .i64 s1)).heap.size = w5.heap.size := by simp [World.setCell]
      have hb5 : base ≤ w5.heap.size := Nat.le_trans HB.out (Ext.trans X2.out X5.out).size
      have h5P : w5.heap.size ≠ P := by have := HKC5.out.lt; omega
      have hkt : Kt base w W8 := by
        rw [hW8]
        exact (((Kt.ext (Ext.trans X2.out X5.out) HB.out).trans (Kt.set HKC5.out (.inl rfl) HBP.out 2 _)).trans (Kt.ext (Ext.alloc _ _) (by rw [hsz]; exact hb5))).trans (Kt.set (HKC6.out.alloc _) (.inl rfl) HBP.out 5 _)
      have hcl : ClAt base W8 P ⟨id, n, s1, ep, ns, some ⟨id, s1, k, i, m, d, 0, 0⟩⟩ :=
        ⟨HBP.out, A, cap, _, by rw [hW8, ← HN.out]; exact (HKC6.out.alloc _).set 5 _, HK.out.kt hkt, w5.heap.size, hb5, rfl, by rw [hW8]; exact (Blk.new' _ _ _ _ hsz.symm).far (p := ⟨P, 5, none⟩) h5P _⟩
      have C8 := HTRY.out W8 hcl
      have HKT := Lib.hid hkt
      clear hcl hkt hW8
      go_wp2_with (go_at_call 42; (with_reducible refine C8.mono ?_); rintro e w9 ⟨rfl, hc9, hk9⟩; have HC9 := Lib.hid hc9; have HK9 := Lib.hid hk9; clear hc9 hk9)
      try go_ret
      exact HF.out _ _ rfl (HKT.out.trans HK9.out) HC9.out

end Go.Proofs.Ytnionfddejaalaa
