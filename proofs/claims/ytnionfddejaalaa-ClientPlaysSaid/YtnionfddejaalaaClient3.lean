/-
  The client (law 21): Tick, Told, Answer.
-/
import Derived.Test.YtnionfddejaalaaClient2
namespace Go.Proofs.Ytnionfddejaalaa
set_option linter.unusedVariables false
set_option linter.unusedSimpArgs false
open Go.RowKit

theorem known_own {w : World} {base : Nat} {A : Option Addr} {c : Nat} {l : List Int} (h : w.ownsRow base 3 1 (.slice A l.length c) l.length (l.map i64)) : KnAt w A l := by
  rcases h.2 with ⟨e, hn⟩ | ⟨g, cap, cur, e, _, hg, _, _, _, ht⟩
  · injection e with e1
    exact .inl ⟨e1, List.eq_nil_of_length_eq_zero hn⟩
  · injection e with e1
    refine .inr ⟨g, cur, e1, hg, fun j v hj => ?_⟩
    rw [Nat.mul_one] at ht
    have hlt : j < l.length := (List.getElem?_eq_some_iff.1 hj).1
    have h2 : (cur.toList.take l.length)[j]? = some (i64 v) := by rw [ht, List.getElem?_map, hj]; rfl
    rw [List.getElem?_take_of_lt hlt] at h2
    simpa using h2

set_option maxRecDepth 8000 in
set_option maxHeartbeats 8000000 in
theorem tick_n (base P : Nat) (id n seq ep : Int) (ns : List Int) (now : Int) (w : World) (H : ClAt base w P ⟨id, n, seq, ep, ns, none⟩) :
    Calls Try.prog 26 #[.pointer (some ⟨P, 0, none⟩), .int .i64 now] w fun e w' => e = .returned (.tuple #[.int .i64 (-1), .bool false]) ∧ Ext w w' := by
  refine hide_post fun D hD => ?_
  have HB : Hid (base ≤ w.heap.size) := H.lt
  have HCL := Lib.hid H
  obtain ⟨hbP, A, cap, pv, kC, hk, hp⟩ := H
  obtain rfl : pv = .pointer none := hp
  obtain ⟨N, hN⟩ : ∃ N, N = ns.length := ⟨_, rfl⟩
  have kC' : Blk w P 87 #[.int .i64 id, .int .i64 n, .int .i64 seq, .int .i64 ep, .slice A N cap, (.pointer none)] := by rw [hN]; exact kC
  have fc0 : ∀ V, Ext w V → V.cell? ⟨P, 0, none⟩ = some (.int .i64 id) := fun V h => (kC'.stay h).cell 0
  have fc1 : ∀ V, Ext w V → V.cell? ⟨P, 1, none⟩ = some (.int .i64 n) := fun V h => (kC'.stay h).cell 1
  have fc2 : ∀ V, Ext w V → V.cell? ⟨P, 2, none⟩ = some (.int .i64 seq) := fun V h => (kC'.stay h).cell 2
  have fc3 : ∀ V, Ext w V → V.cell? ⟨P, 3, none⟩ = some (.int .i64 ep) := fun V h => (kC'.stay h).cell 3
  have fc4 : ∀ V, Ext w V → V.cell? ⟨P, 4, none⟩ = some (.slice A N cap) := fun V h => (kC'.stay h).cell 4
  have fc5 : ∀ V, Ext w V → V.cell? ⟨P, 5, none⟩ = some ((.pointer none)) := fun V h => (kC'.stay h).cell 5
  clear kC kC' hk hN HCL 
  have E0 : Hid (Ext w w) := Ext.refl _
  go_enter Try.func26, Try.ntmps26
  go_wp2_with fail
  refine ext_begin (by kernel_rfl) ?_
  have E0d := Lib.hid (Ext.drewR E0.out)
  refine ext_take (i := 0) (v := ?_) rfl (by kernel_rfl) (by kernel_rfl) (by kernel_rfl) (fun _ _ _ h => h) (by rfl) ?_ ?_
  rotate_left
  · intro W hW; have hW0 := Ext.trans E0d.out hW; clear hW; go_simp <;> with_reducible rfl
  try simp only [Act.put, List.setIfInBounds_toArray, List.set_cons_zero, List.set_cons_succ]
  refine ext_take (i := 1) (v := ?_) rfl (by kernel_rfl) (by kernel_rfl) (by kernel_rfl) (fun _ _ _ h => h) (by rfl) ?_ ?_
  rotate_left
  · intro W hW; have hW0 := Ext.trans E0d.out hW; clear hW; go_simp <;> with_reducible rfl
  try simp only [Act.put, List.setIfInBounds_toArray, List.set_cons_zero, List.set_cons_succ]
  refine ext_take (i := 2) (v := ?_) rfl (by kernel_rfl) (by kernel_rfl) (by kernel_rfl) (fun _ _ _ h => h) (by rfl) ?_ ?_
  rotate_left
  · intro W hW; have hW0 := Ext.trans E0d.out hW; clear hW; go_simp <;> with_reducible rfl
  try simp only [Act.put, List.setIfInBounds_toArray, List.set_cons_zero, List.set_cons_succ]
  refine ext_take (i := 3) (v := ?_) rfl (by kernel_rfl) (by kernel_rfl) (by kernel_rfl) (fun _ _ _ h => h) (by rfl) ?_ ?_
  rotate_left
  · intro W hW; have hW0 := Ext.trans E0d.out hW; clear hW; go_simp <;> with_reducible rfl
  try simp only [Act.put, List.setIfInBounds_toArray, List.set_cons_zero, List.set_cons_succ]
  refine ext_take (i := 4) (v := ?_) rfl (by kernel_rfl) (by kernel_rfl) (by kernel_rfl) (fun _ _ _ h => h) (by rfl) ?_ ?_
  rotate_left
  · intro W hW; have hW0 := Ext.trans E0d.out hW; clear hW; go_simp <;> with_reducible rfl
  try simp only [Act.put, List.setIfInBounds_toArray, List.set_cons_zero, List.set_cons_succ]
  refine ext_take (i := 5) (v := ?_) rfl (by kernel_rfl) (by kernel_rfl) (by kernel_rfl) (fun _ _ _ h => h) (by rfl) ?_ ?_
  rotate_left
  · intro W hW; have hW0 := Ext.trans E0d.out hW; clear hW; go_simp <;> with_reducible rfl
  try simp only [Act.put, List.setIfInBounds_toArray, List.set_cons_zero, List.set_cons_succ]
  refine ext_take (i := 6) (v := ?_) rfl (by kernel_rfl) (by kernel_rfl) (by kernel_rfl) (fun _ _ _ h => h) (by rfl) ?_ ?_
  rotate_left
  · intro W hW; have hW0 := Ext.trans E0d.out hW; clear hW; go_simp <;> with_reducible rfl
  try simp only [Act.put, List.setIfInBounds_toArray, List.set_cons_zero, List.set_cons_succ]
  refine ext_take (i := 7) (v := ?_) rfl (by kernel_rfl) (by kernel_rfl) (by kernel_rfl) (fun _ _ _ h => h) (by rfl) ?_ ?_
  rotate_left
  · intro W hW; have hW0 := Ext.trans E0d.out hW; clear hW; go_simp <;> with_reducible rfl
  try simp only [Act.put, List.setIfInBounds_toArray, List.set_cons_zero, List.set_cons_succ]
  refine ext_take (i := 8) (v := ?_) rfl (by kernel_rfl) (by kernel_rfl) (by kernel_rfl) (fun _ _ _ h => h) (by rfl) ?_ ?_
  rotate_left
  · intro W hW; have hW0 := Ext.trans E0d.out hW; clear hW; go_simp <;> with_reducible rfl
  try simp only [Act.put, List.setIfInBounds_toArray, List.set_cons_zero, List.set_cons_succ]
  refine ext_take (i := 9) (v := ?_) rfl (by kernel_rfl) (by kernel_rfl) (by kernel_rfl) (fun _ _ _ h => h) (by rfl) ?_ ?_
  rotate_left
  · intro W hW; have hW0 := Ext.trans E0d.out hW; clear hW; go_simp <;> with_reducible rfl
  try simp only [Act.put, List.setIfInBounds_toArray, List.set_cons_zero, List.set_cons_succ]
  refine ext_skip (i := 10) rfl (by kernel_rfl) (by kernel_rfl) (by kernel_rfl) (fun _ _ _ h => h) (by rfl) ?_
  try simp only [Act.put, List.setIfInBounds_toArray, List.set_cons_zero, List.set_cons_succ]
  refine ext_skip (i := 11) rfl (by kernel_rfl) (by kernel_rfl) (by kernel_rfl) (fun _ _ _ h => h) (by rfl) ?_
  try simp only [Act.put, List.setIfInBounds_toArray, List.set_cons_zero, List.set_cons_succ]
  refine ext_skip (i := 12) rfl (by kernel_rfl) (by kernel_rfl) (by kernel_rfl) (fun _ _ _ h => h) (by rfl) ?_
  try simp only [Act.put, List.setIfInBounds_toArray, List.set_cons_zero, List.set_cons_succ]
  refine ext_skip (i := 13) rfl (by kernel_rfl) (by kernel_rfl) (by kernel_rfl) (fun _ _ _ h => h) (by rfl) ?_
  try simp only [Act.put, List.setIfInBounds_toArray, List.set_cons_zero, List.set_cons_succ]
  refine ext_skip (i := 14) rfl (by kernel_rfl) (by kernel_rfl) (by kernel_rfl) (fun _ _ _ h => h) (by rfl) ?_
  try simp only [Act.put, List.setIfInBounds_toArray, List.set_cons_zero, List.set_cons_succ]
  refine ext_skip (i := 15) rfl (by kernel_rfl) (by kernel_rfl) (by kernel_rfl) (fun _ _ _ h => h) (by rfl) ?_
  try simp only [Act.put, List.setIfInBounds_toArray, List.set_cons_zero, List.set_cons_succ]
  refine ext_skip (i := 16) rfl (by kernel_rfl) (by kernel_rfl) (by kernel_rfl) (fun _ _ _ h => h) (by rfl) ?_
  try simp only [Act.put, List.setIfInBounds_toArray, List.set_cons_zero, List.set_cons_succ]
  refine ext_skip (i := 17) rfl (by kernel_rfl) (by kernel_rfl) (by kernel_rfl) (fun _ _ _ h => h) (by rfl) ?_
  try simp only [Act.put, List.setIfInBounds_toArray, List.set_cons_zero, List.set_cons_succ]
  refine ext_skip (i := 18) rfl (by kernel_rfl) (by kernel_rfl) (by kernel_rfl) (fun _ _ _ h => h) (by rfl) ?_
  try simp only [Act.put, List.setIfInBounds_toArray, List.set_cons_zero, List.set_cons_succ]
  refine ext_skip (i := 19) rfl (by kernel_rfl) (by kernel_rfl) (by kernel_rfl) (fun _ _ _ h => h) (by rfl) ?_
  try simp only [Act.put, List.setIfInBounds_toArray, List.set_cons_zero, List.set_cons_succ]
  refine ext_skip (i := 20) rfl (by kernel_rfl) (by kernel_rfl) (by kernel_rfl) (fun _ _ _ h => h) (by rfl) ?_
  try simp only [Act.put, List.setIfInBounds_toArray, List.set_cons_zero, List.set_cons_succ]
  refine ext_skip (i := 21) rfl (by kernel_rfl) (by kernel_rfl) (by kernel_rfl) (fun _ _ _ h => h) (by rfl) ?_
  try simp only [Act.put, List.setIfInBounds_toArray, List.set_cons_zero, List.set_cons_succ]
  refine ext_skip (i := 22) rfl (by kernel_rfl) (by kernel_rfl) (by kernel_rfl) (fun _ _ _ h => h) (by rfl) ?_
  try simp only [Act.put, List.setIfInBounds_toArray, List.set_cons_zero, List.set_cons_succ]
  refine ext_skip (i := 23) rfl (by kernel_rfl) (by kernel_rfl) (by kernel_rfl) (fun _ _ _ h => h) (by rfl) ?_
  try simp only [Act.put, List.setIfInBounds_toArray, List.set_cons_zero, List.set_cons_succ]
  refine ext_skip (i := 24) rfl (by kernel_rfl) (by kernel_rfl) (by kernel_rfl) (fun _ _ _ h => h) (by rfl) ?_
  try simp only [Act.put, List.setIfInBounds_toArray, List.set_cons_zero, List.set_cons_succ]
  refine ext_skip (i := 25) rfl (by kernel_rfl) (by kernel_rfl) (by kernel_rfl) (fun _ _ _ h => h) (by rfl) ?_
  try simp only [Act.put, List.setIfInBounds_toArray, List.set_cons_zero, List.set_cons_succ]
  refine ext_skip (i := 26) rfl (by kernel_rfl) (by kernel_rfl) (by kernel_rfl) (fun _ _ _ h => h) (by rfl) ?_
  try simp only [Act.put, List.setIfInBounds_toArray, List.set_cons_zero, List.set_cons_succ]
  refine ext_take (i := 27) (v := ?_) rfl (by kernel_rfl) (by kernel_rfl) (by kernel_rfl) (fun _ _ _ h => h) (by rfl) ?_ ?_
  rotate_left
  · intro W hW; have hW0 := Ext.trans E0d.out hW; clear hW; go_simp <;> with_reducible rfl
  try simp only [Act.put, List.setIfInBounds_toArray, List.set_cons_zero, List.set_cons_succ]
  refine wpAnyH_done (by kernel_rfl) ?_ _
  have EX := Lib.hid E0d.out
  clear E0d E0
  go_wp2_with fail
  try go_ret
  exact hD.out _ _ ⟨rfl, EX.out⟩

set_option maxRecDepth 8000 in
set_option maxHeartbeats 8000000 in
theorem tick_o (base P : Nat) (id n seq ep : Int) (ns : List Int) (c s k i m : Int) (d : ByteArray) (ak tr : Int) (now : Int) (w : World) (H : ClAt base w P ⟨id, n, seq, ep, ns, some ⟨c, s, k, i, m, d, ak, tr⟩⟩) (hd : dueB now ak tr = false) (h1 : -1 ≤ tr) (h2 : tr ≤ 1000000) (h3 : now ≤ 9223372036854775807) (h4 : ak ≤ 9223372036854775807) :
    Calls Try.prog 26 #[.pointer (some ⟨P, 0, none⟩), .int .i64 now] w fun e w' => e = .returned (.tuple #[.int .i64 (-1), .bool false]) ∧ Ext w w' := by
  refine hide_post fun D hD => ?_
  have HB : Hid (base ≤ w.heap.size) := H.lt
  have HCL := Lib.hid H
  obtain ⟨hbP, A, cap, pv, kC, hk, hp⟩ := H
  obtain ⟨pp, hpp, rfl, kP⟩ := hp
  have kP' : Blk w pp 89 #[.int .i64 c, .int .i64 s, .int .i64 k, .int .i64 i, .int .i64 m, .string d, .int .i64 ak, .int .i64 tr] := kP
  obtain ⟨N, hN⟩ : ∃ N, N = ns.length := ⟨_, rfl⟩
  have kC' : Blk w P 87 #[.int .i64 id, .int .i64 n, .int .i64 seq, .int .i64 ep, .slice A N cap, (.pointer (some ⟨pp, 0, none⟩))] := by rw [hN]; exact kC
  have fc0 : ∀ V, Ext w V → V.cell? ⟨P, 0, none⟩ = some (.int .i64 id) := fun V h => (kC'.stay h).cell 0
  have fc1 : ∀ V, Ext w V → V.cell? ⟨P, 1, none⟩ = some (.int .i64 n) := fun V h => (kC'.stay h).cell 1
  have fc2 : ∀ V, Ext w V → V.cell? ⟨P, 2, none⟩ = some (.int .i64 seq) := fun V h => (kC'.stay h).cell 2
  have fc3 : ∀ V, Ext w V → V.cell? ⟨P, 3, none⟩ = some (.int .i64 ep) := fun V h => (kC'.stay h).cell 3
  have fc4 : ∀ V, Ext w V → V.cell? ⟨P, 4, none⟩ = some (.slice A N cap) := fun V h => (kC'.stay h).cell 4
  have fc5 : ∀ V, Ext w V → V.cell? ⟨P, 5, none⟩ = some ((.pointer (some ⟨pp, 0, none⟩))) := fun V h => (kC'.stay h).cell 5
  have fp0 : ∀ V, Ext w V → V.cell? ⟨pp, 0, none⟩ = some (.int .i64 c) := fun V h => (kP'.stay h).cell 0
  have fp1 : ∀ V, Ext w V → V.cell? ⟨pp, 1, none⟩ = some (.int .i64 s) := fun V h => (kP'.stay h).cell 1
  have fp2 : ∀ V, Ext w V → V.cell? ⟨pp, 2, none⟩ = some (.int .i64 k) := fun V h => (kP'.stay h).cell 2
  have fp3 : ∀ V, Ext w V → V.cell? ⟨pp, 3, none⟩ = some (.int .i64 i) := fun V h => (kP'.stay h).cell 3
  have fp4 : ∀ V, Ext w V → V.cell? ⟨pp, 4, none⟩ = some (.int .i64 m) := fun V h => (kP'.stay h).cell 4
  have fp5 : ∀ V, Ext w V → V.cell? ⟨pp, 5, none⟩ = some (.string d) := fun V h => (kP'.stay h).cell 5
  have fp6 : ∀ V, Ext w V → V.cell? ⟨pp, 6, none⟩ = some (.int .i64 ak) := fun V h => (kP'.stay h).cell 6
  have fp7 : ∀ V, Ext w V → V.cell? ⟨pp, 7, none⟩ = some (.int .i64 tr) := fun V h => (kP'.stay h).cell 7
  have CD : Hid (∀ V, Ext w V → Calls Try.prog 45 #[.int .i64 now, .int .i64 ak, .int .i64 tr] V fun e w' => e = .returned (.bool false) ∧ Ext V w') := fun V _ => by
    rw [← hd]
    exact (due_any now ak tr V (by omega) (by omega) h3 h4).mono fun e w' ⟨h1, h2⟩ => ⟨h1, h2 ▸ Ext.refl _⟩
  clear kC kC' hk hN HCL kP kP' hd h1 h2 h3 h4
  have E0 : Hid (Ext w w) := Ext.refl _
  go_enter Try.func26, Try.ntmps26
  go_wp2_with fail
  refine ext_begin (by kernel_rfl) ?_
  have E0d := Lib.hid (Ext.drewR E0.out)
  refine ext_take (i := 0) (v := ?_) rfl (by kernel_rfl) (by kernel_rfl) (by kernel_rfl) (fun _ _ _ h => h) (by rfl) ?_ ?_
  rotate_left
  · intro W hW; have hW0 := Ext.trans E0d.out hW; clear hW; go_simp <;> with_reducible rfl
  try simp only [Act.put, List.setIfInBounds_toArray, List.set_cons_zero, List.set_cons_succ]
  refine ext_take (i := 1) (v := ?_) rfl (by kernel_rfl) (by kernel_rfl) (by kernel_rfl) (fun _ _ _ h => h) (by rfl) ?_ ?_
  rotate_left
  · intro W hW; have hW0 := Ext.trans E0d.out hW; clear hW; go_simp <;> with_reducible rfl
  try simp only [Act.put, List.setIfInBounds_toArray, List.set_cons_zero, List.set_cons_succ]
  refine ext_take (i := 2) (v := ?_) rfl (by kernel_rfl) (by kernel_rfl) (by kernel_rfl) (fun _ _ _ h => h) (by rfl) ?_ ?_
  rotate_left
  · intro W hW; have hW0 := Ext.trans E0d.out hW; clear hW; go_simp <;> with_reducible rfl
  try simp only [Act.put, List.setIfInBounds_toArray, List.set_cons_zero, List.set_cons_succ]
  refine ext_take (i := 3) (v := ?_) rfl (by kernel_rfl) (by kernel_rfl) (by kernel_rfl) (fun _ _ _ h => h) (by rfl) ?_ ?_
  rotate_left
  · intro W hW; have hW0 := Ext.trans E0d.out hW; clear hW; go_simp <;> with_reducible rfl
  try simp only [Act.put, List.setIfInBounds_toArray, List.set_cons_zero, List.set_cons_succ]
  refine ext_take (i := 4) (v := ?_) rfl (by kernel_rfl) (by kernel_rfl) (by kernel_rfl) (fun _ _ _ h => h) (by rfl) ?_ ?_
  rotate_left
  · intro W hW; have hW0 := Ext.trans E0d.out hW; clear hW; go_simp <;> with_reducible rfl
  try simp only [Act.put, List.setIfInBounds_toArray, List.set_cons_zero, List.set_cons_succ]
  refine ext_take (i := 5) (v := ?_) rfl (by kernel_rfl) (by kernel_rfl) (by kernel_rfl) (fun _ _ _ h => h) (by rfl) ?_ ?_
  rotate_left
  · intro W hW; have hW0 := Ext.trans E0d.out hW; clear hW; go_simp <;> with_reducible rfl
  try simp only [Act.put, List.setIfInBounds_toArray, List.set_cons_zero, List.set_cons_succ]
  refine ext_take (i := 6) (v := ?_) rfl (by kernel_rfl) (by kernel_rfl) (by kernel_rfl) (fun _ _ _ h => h) (by rfl) ?_ ?_
  rotate_left
  · intro W hW; have hW0 := Ext.trans E0d.out hW; clear hW; go_simp <;> with_reducible rfl
  try simp only [Act.put, List.setIfInBounds_toArray, List.set_cons_zero, List.set_cons_succ]
  refine ext_take (i := 7) (v := ?_) rfl (by kernel_rfl) (by kernel_rfl) (by kernel_rfl) (fun _ _ _ h => h) (by rfl) ?_ ?_
  rotate_left
  · intro W hW; have hW0 := Ext.trans E0d.out hW; clear hW; go_simp <;> with_reducible rfl
  try simp only [Act.put, List.setIfInBounds_toArray, List.set_cons_zero, List.set_cons_succ]
  refine ext_take (i := 8) (v := ?_) rfl (by kernel_rfl) (by kernel_rfl) (by kernel_rfl) (fun _ _ _ h => h) (by rfl) ?_ ?_
  rotate_left
  · intro W hW; have hW0 := Ext.trans E0d.out hW; clear hW; go_simp <;> with_reducible rfl
  try simp only [Act.put, List.setIfInBounds_toArray, List.set_cons_zero, List.set_cons_succ]
  refine ext_take (i := 9) (v := ?_) rfl (by kernel_rfl) (by kernel_rfl) (by kernel_rfl) (fun _ _ _ h => h) (by rfl) ?_ ?_
  rotate_left
  · intro W hW; have hW0 := Ext.trans E0d.out hW; clear hW; go_simp <;> with_reducible rfl
  try simp only [Act.put, List.setIfInBounds_toArray, List.set_cons_zero, List.set_cons_succ]
  refine ext_take (i := 10) (v := ?_) rfl (by kernel_rfl) (by kernel_rfl) (by kernel_rfl) (fun _ _ _ h => h) (by rfl) ?_ ?_
  rotate_left
  · intro W hW; have hW0 := Ext.trans E0d.out hW; clear hW; go_simp <;> with_reducible rfl
  try simp only [Act.put, List.setIfInBounds_toArray, List.set_cons_zero, List.set_cons_succ]
  refine ext_take (i := 11) (v := ?_) rfl (by kernel_rfl) (by kernel_rfl) (by kernel_rfl) (fun _ _ _ h => h) (by rfl) ?_ ?_
  rotate_left
  · intro W hW; have hW0 := Ext.trans E0d.out hW; clear hW; go_simp <;> with_reducible rfl
  try simp only [Act.put, List.setIfInBounds_toArray, List.set_cons_zero, List.set_cons_succ]
  refine ext_take (i := 12) (v := ?_) rfl (by kernel_rfl) (by kernel_rfl) (by kernel_rfl) (fun _ _ _ h => h) (by rfl) ?_ ?_
  rotate_left
  · intro W hW; have hW0 := Ext.trans E0d.out hW; clear hW; go_simp <;> with_reducible rfl
  try simp only [Act.put, List.setIfInBounds_toArray, List.set_cons_zero, List.set_cons_succ]
  refine ext_take (i := 13) (v := ?_) rfl (by kernel_rfl) (by kernel_rfl) (by kernel_rfl) (fun _ _ _ h => h) (by rfl) ?_ ?_
  rotate_left
  · intro W hW; have hW0 := Ext.trans E0d.out hW; clear hW; go_simp <;> with_reducible rfl
  try simp only [Act.put, List.setIfInBounds_toArray, List.set_cons_zero, List.set_cons_succ]
  refine ext_take (i := 14) (v := ?_) rfl (by kernel_rfl) (by kernel_rfl) (by kernel_rfl) (fun _ _ _ h => h) (by rfl) ?_ ?_
  rotate_left
  · intro W hW; have hW0 := Ext.trans E0d.out hW; clear hW; go_simp <;> with_reducible rfl
  try simp only [Act.put, List.setIfInBounds_toArray, List.set_cons_zero, List.set_cons_succ]
  refine ext_take (i := 15) (v := ?_) rfl (by kernel_rfl) (by kernel_rfl) (by kernel_rfl) (fun _ _ _ h => h) (by rfl) ?_ ?_
  rotate_left
  · intro W hW; have hW0 := Ext.trans E0d.out hW; clear hW; go_simp <;> with_reducible rfl
  try simp only [Act.put, List.setIfInBounds_toArray, List.set_cons_zero, List.set_cons_succ]
  refine ext_take (i := 16) (v := ?_) rfl (by kernel_rfl) (by kernel_rfl) (by kernel_rfl) (fun _ _ _ h => h) (by rfl) ?_ ?_
  rotate_left
  · intro W hW; have hW0 := Ext.trans E0d.out hW; clear hW; go_simp <;> with_reducible rfl
  try simp only [Act.put, List.setIfInBounds_toArray, List.set_cons_zero, List.set_cons_succ]
  refine ext_take (i := 17) (v := ?_) rfl (by kernel_rfl) (by kernel_rfl) (by kernel_rfl) (fun _ _ _ h => h) (by rfl) ?_ ?_
  rotate_left
  · intro W hW; have hW0 := Ext.trans E0d.out hW; clear hW; go_simp <;> with_reducible rfl
  try simp only [Act.put, List.setIfInBounds_toArray, List.set_cons_zero, List.set_cons_succ]
  refine ext_take (i := 18) (v := ?_) rfl (by kernel_rfl) (by kernel_rfl) (by kernel_rfl) (fun _ _ _ h => h) (by rfl) ?_ ?_
  rotate_left
  · intro W hW; have hW0 := Ext.trans E0d.out hW; clear hW; go_simp <;> with_reducible rfl
  try simp only [Act.put, List.setIfInBounds_toArray, List.set_cons_zero, List.set_cons_succ]
  refine ext_take (i := 19) (v := ?_) rfl (by kernel_rfl) (by kernel_rfl) (by kernel_rfl) (fun _ _ _ h => h) (by rfl) ?_ ?_
  rotate_left
  · intro W hW; have hW0 := Ext.trans E0d.out hW; clear hW; go_simp <;> with_reducible rfl
  try simp only [Act.put, List.setIfInBounds_toArray, List.set_cons_zero, List.set_cons_succ]
  refine ext_take (i := 20) (v := ?_) rfl (by kernel_rfl) (by kernel_rfl) (by kernel_rfl) (fun _ _ _ h => h) (by rfl) ?_ ?_
  rotate_left
  · intro W hW; have hW0 := Ext.trans E0d.out hW; clear hW; go_simp <;> with_reducible rfl
  try simp only [Act.put, List.setIfInBounds_toArray, List.set_cons_zero, List.set_cons_succ]
  refine ext_take (i := 21) (v := ?_) rfl (by kernel_rfl) (by kernel_rfl) (by kernel_rfl) (fun _ _ _ h => h) (by rfl) ?_ ?_
  rotate_left
  · intro W hW; have hW0 := Ext.trans E0d.out hW; clear hW; go_simp <;> with_reducible rfl
  try simp only [Act.put, List.setIfInBounds_toArray, List.set_cons_zero, List.set_cons_succ]
  refine ext_take (i := 22) (v := ?_) rfl (by kernel_rfl) (by kernel_rfl) (by kernel_rfl) (fun _ _ _ h => h) (by rfl) ?_ ?_
  rotate_left
  · intro W hW; have hW0 := Ext.trans E0d.out hW; clear hW; go_simp <;> with_reducible rfl
  try simp only [Act.put, List.setIfInBounds_toArray, List.set_cons_zero, List.set_cons_succ]
  refine ext_take (i := 23) (v := ?_) rfl (by kernel_rfl) (by kernel_rfl) (by kernel_rfl) (fun _ _ _ h => h) (by rfl) ?_ ?_
  rotate_left
  · intro W hW; have hW0 := Ext.trans E0d.out hW; clear hW; go_simp <;> with_reducible rfl
  try simp only [Act.put, List.setIfInBounds_toArray, List.set_cons_zero, List.set_cons_succ]
  refine ext_take (i := 24) (v := ?_) rfl (by kernel_rfl) (by kernel_rfl) (by kernel_rfl) (fun _ _ _ h => h) (by rfl) ?_ ?_
  rotate_left
  · intro W hW; have hW0 := Ext.trans E0d.out hW; clear hW; go_simp <;> with_reducible rfl
  try simp only [Act.put, List.setIfInBounds_toArray, List.set_cons_zero, List.set_cons_succ]
  refine ext_call (i := 25) rfl (by kernel_rfl) (by rfl) (fun K' hK => ?_)
  go_simp
  (go_at_call 45; (with_reducible refine (CD.out _ E0d.out).mono ?_); rintro e w3 ⟨rfl, hx⟩; refine hK _ _ hx ?_; clear hK)
  have Ew3 := Lib.hid (Ext.trans E0d.out hx)
  clear hx
  try simp only [Act.put, List.setIfInBounds_toArray, List.set_cons_zero, List.set_cons_succ]
  refine ext_take (i := 26) (v := ?_) rfl (by kernel_rfl) (by kernel_rfl) (by kernel_rfl) (fun _ _ _ h => h) (by rfl) ?_ ?_
  rotate_left
  · intro W hW; have hW0 := Ext.trans Ew3.out hW; clear hW; go_simp <;> with_reducible rfl
  try simp only [Act.put, List.setIfInBounds_toArray, List.set_cons_zero, List.set_cons_succ]
  refine ext_take (i := 27) (v := ?_) rfl (by kernel_rfl) (by kernel_rfl) (by kernel_rfl) (fun _ _ _ h => h) (by rfl) ?_ ?_
  rotate_left
  · intro W hW; have hW0 := Ext.trans Ew3.out hW; clear hW; go_simp <;> with_reducible rfl
  try simp only [Act.put, List.setIfInBounds_toArray, List.set_cons_zero, List.set_cons_succ]
  refine wpAnyH_done (by kernel_rfl) ?_ _
  have EX := Lib.hid Ew3.out
  clear Ew3 E0d E0
  go_wp2_with fail
  try go_ret
  exact hD.out _ _ ⟨rfl, EX.out⟩

set_option maxRecDepth 8000 in
set_option maxHeartbeats 8000000 in
theorem tick_y (base P : Nat) (id n seq ep : Int) (ns : List Int) (c s k i m : Int) (d : ByteArray) (ak tr : Int) (now t1 : Int) (w : World) (H : ClAt base w P ⟨id, n, seq, ep, ns, some ⟨c, s, k, i, m, d, ak, tr⟩⟩) (hd : dueB now ak tr = true) (hns : ns.length ≤ 1000) (h0 : 0 ≤ tr) (ht1 : t1 = tr + 1) (h1 : -1 ≤ tr) (h2 : tr ≤ 1000000) (h3 : now ≤ 9223372036854775807) (h4 : ak ≤ 9223372036854775807) :
    Calls Try.prog 26 #[.pointer (some ⟨P, 0, none⟩), .int .i64 now] w fun e w' => e = .returned (.tuple #[.int .i64 (targetF ns n t1 (decide (k = 1 ∨ k = 2 ∨ k = 3))), .bool true]) ∧ ClAt base w' P ⟨id, n, seq, ep, ns, some ⟨c, s, k, i, m, d, now, t1⟩⟩ ∧ Kt base w w' := by
  refine hide_post fun D hD => ?_
  have HB : Hid (base ≤ w.heap.size) := H.lt
  have HCL := Lib.hid H
  obtain ⟨hbP, A, cap, pv, kC, hk, hp⟩ := H
  obtain ⟨pp, hpp, rfl, kP⟩ := hp
  have kP' : Blk w pp 89 #[.int .i64 c, .int .i64 s, .int .i64 k, .int .i64 i, .int .i64 m, .string d, .int .i64 ak, .int .i64 tr] := kP
  obtain ⟨N, hN⟩ : ∃ N, N = ns.length := ⟨_, rfl⟩
  have kC' : Blk w P 87 #[.int .i64 id, .int .i64 n, .int .i64 seq, .int .i64 ep, .slice A N cap, (.pointer (some ⟨pp, 0, none⟩))] := by rw [hN]; exact kC
  have fc0 : ∀ V, Ext w V → V.cell? ⟨P, 0, none⟩ = some (.int .i64 id) := fun V h => (kC'.stay h).cell 0
  have fc1 : ∀ V, Ext w V → V.cell? ⟨P, 1, none⟩ = some (.int .i64 n) := fun V h => (kC'.stay h).cell 1
  have fc2 : ∀ V, Ext w V → V.cell? ⟨P, 2, none⟩ = some (.int .i64 seq) := fun V h => (kC'.stay h).cell 2
  have fc3 : ∀ V, Ext w V → V.cell? ⟨P, 3, none⟩ = some (.int .i64 ep) := fun V h => (kC'.stay h).cell 3
  have fc4 : ∀ V, Ext w V → V.cell? ⟨P, 4, none⟩ = some (.slice A N cap) := fun V h => (kC'.stay h).cell 4
  have fc5 : ∀ V, Ext w V → V.cell? ⟨P, 5, none⟩ = some ((.pointer (some ⟨pp, 0, none⟩))) := fun V h => (kC'.stay h).cell 5
  have fp0 : ∀ V, Ext w V → V.cell? ⟨pp, 0, none⟩ = some (.int .i64 c) := fun V h => (kP'.stay h).cell 0
  have fp1 : ∀ V, Ext w V → V.cell? ⟨pp, 1, none⟩ = some (.int .i64 s) := fun V h => (kP'.stay h).cell 1
  have fp2 : ∀ V, Ext w V → V.cell? ⟨pp, 2, none⟩ = some (.int .i64 k) := fun V h => (kP'.stay h).cell 2
  have fp3 : ∀ V, Ext w V → V.cell? ⟨pp, 3, none⟩ = some (.int .i64 i) := fun V h => (kP'.stay h).cell 3
  have fp4 : ∀ V, Ext w V → V.cell? ⟨pp, 4, none⟩ = some (.int .i64 m) := fun V h => (kP'.stay h).cell 4
  have fp5 : ∀ V, Ext w V → V.cell? ⟨pp, 5, none⟩ = some (.string d) := fun V h => (kP'.stay h).cell 5
  have fp6 : ∀ V, Ext w V → V.cell? ⟨pp, 6, none⟩ = some (.int .i64 ak) := fun V h => (kP'.stay h).cell 6
  have fp7 : ∀ V, Ext w V → V.cell? ⟨pp, 7, none⟩ = some (.int .i64 tr) := fun V h => (kP'.stay h).cell 7
  have CD : Hid (∀ V, Ext w V → Calls Try.prog 45 #[.int .i64 now, .int .i64 ak, .int .i64 tr] V fun e w' => e = .returned (.bool true) ∧ Ext V w') := fun V _ => by
    rw [← hd]
    exact (due_any now ak tr V (by omega) (by omega) h3 h4).mono fun e w' ⟨h1, h2⟩ => ⟨h1, h2 ▸ Ext.refl _⟩
  have CT : Hid (∀ V, Ext w V → Calls Try.prog 42 #[.pointer (some ⟨P, 0, none⟩), .int .i64 now] V fun e w' => e = .returned (.int .i64 (targetF ns n t1 (decide (k = 1 ∨ k = 2 ∨ k = 3)))) ∧ ClAt base w' P ⟨id, n, seq, ep, ns, some ⟨c, s, k, i, m, d, now, t1⟩⟩ ∧ Kt base V w') := fun V hV => try_any base P id n seq ep ns c s k i m d ak tr now t1 V (HCL.out.stay hV) hns h0 h2 ht1
  clear kC kC' hk hN HCL kP kP' hd h1 h2 h3 h4 hns h0 ht1
  have E0 : Hid (Ext w w) := Ext.refl _
  generalize targetF ns n t1 (decide (k = 1 ∨ k = 2 ∨ k = 3)) = r at *
  go_enter Try.func26, Try.ntmps26
  go_wp2_with fail
  refine ext_begin (by kernel_rfl) ?_
  have E0d := Lib.hid (Ext.drewR E0.out)
  refine ext_take (i := 0) (v := ?_) rfl (by kernel_rfl) (by kernel_rfl) (by kernel_rfl) (fun _ _ _ h => h) (by rfl) ?_ ?_
  rotate_left
  · intro W hW; have hW0 := Ext.trans E0d.out hW; clear hW; go_simp <;> with_reducible rfl
  try simp only [Act.put, List.setIfInBounds_toArray, List.set_cons_zero, List.set_cons_succ]
  refine ext_take (i := 1) (v := ?_) rfl (by kernel_rfl) (by kernel_rfl) (by kernel_rfl) (fun _ _ _ h => h) (by rfl) ?_ ?_
  rotate_left
  · intro W hW; have hW0 := Ext.trans E0d.out hW; clear hW; go_simp <;> with_reducible rfl
  try simp only [Act.put, List.setIfInBounds_toArray, List.set_cons_zero, List.set_cons_succ]
  refine ext_take (i := 2) (v := ?_) rfl (by kernel_rfl) (by kernel_rfl) (by kernel_rfl) (fun _ _ _ h => h) (by rfl) ?_ ?_
  rotate_left
  · intro W hW; have hW0 := Ext.trans E0d.out hW; clear hW; go_simp <;> with_reducible rfl
  try simp only [Act.put, List.setIfInBounds_toArray, List.set_cons_zero, List.set_cons_succ]
  refine ext_take (i := 3) (v := ?_) rfl (by kernel_rfl) (by kernel_rfl) (by kernel_rfl) (fun _ _ _ h => h) (by rfl) ?_ ?_
  rotate_left
  · intro W hW; have hW0 := Ext.trans E0d.out hW; clear hW; go_simp <;> with_reducible rfl
  try simp only [Act.put, List.setIfInBounds_toArray, List.set_cons_zero, List.set_cons_succ]
  refine ext_take (i := 4) (v := ?_) rfl (by kernel_rfl) (by kernel_rfl) (by kernel_rfl) (fun _ _ _ h => h) (by rfl) ?_ ?_
  rotate_left
  · intro W hW; have hW0 := Ext.trans E0d.out hW; clear hW; go_simp <;> with_reducible rfl
  try simp only [Act.put, List.setIfInBounds_toArray, List.set_cons_zero, List.set_cons_succ]
  refine ext_take (i := 5) (v := ?_) rfl (by kernel_rfl) (by kernel_rfl) (by kernel_rfl) (fun _ _ _ h => h) (by rfl) ?_ ?_
  rotate_left
  · intro W hW; have hW0 := Ext.trans E0d.out hW; clear hW; go_simp <;> with_reducible rfl
  try simp only [Act.put, List.setIfInBounds_toArray, List.set_cons_zero, List.set_cons_succ]
  refine ext_take (i := 6) (v := ?_) rfl (by kernel_rfl) (by kernel_rfl) (by kernel_rfl) (fun _ _ _ h => h) (by rfl) ?_ ?_
  rotate_left
  · intro W hW; have hW0 := Ext.trans E0d.out hW; clear hW; go_simp <;> with_reducible rfl
  try simp only [Act.put, List.setIfInBounds_toArray, List.set_cons_zero, List.set_cons_succ]
  refine ext_take (i := 7) (v := ?_) rfl (by kernel_rfl) (by kernel_rfl) (by kernel_rfl) (fun _ _ _ h => h) (by rfl) ?_ ?_
  rotate_left
  · intro W hW; have hW0 := Ext.trans E0d.out hW; clear hW; go_simp <;> with_reducible rfl
  try simp only [Act.put, List.setIfInBounds_toArray, List.set_cons_zero, List.set_cons_succ]
  refine ext_take (i := 8) (v := ?_) rfl (by kernel_rfl) (by kernel_rfl) (by kernel_rfl) (fun _ _ _ h => h) (by rfl) ?_ ?_
  rotate_left
  · intro W hW; have hW0 := Ext.trans E0d.out hW; clear hW; go_simp <;> with_reducible rfl
  try simp only [Act.put, List.setIfInBounds_toArray, List.set_cons_zero, List.set_cons_succ]
  refine ext_take (i := 9) (v := ?_) rfl (by kernel_rfl) (by kernel_rfl) (by kernel_rfl) (fun _ _ _ h => h) (by rfl) ?_ ?_
  rotate_left
  · intro W hW; have hW0 := Ext.trans E0d.out hW; clear hW; go_simp <;> with_reducible rfl
  try simp only [Act.put, List.setIfInBounds_toArray, List.set_cons_zero, List.set_cons_succ]
  refine ext_take (i := 10) (v := ?_) rfl (by kernel_rfl) (by kernel_rfl) (by kernel_rfl) (fun _ _ _ h => h) (by rfl) ?_ ?_
  rotate_left
  · intro W hW; have hW0 := Ext.trans E0d.out hW; clear hW; go_simp <;> with_reducible rfl
  try simp only [Act.put, List.setIfInBounds_toArray, List.set_cons_zero, List.set_cons_succ]
  refine ext_take (i := 11) (v := ?_) rfl (by kernel_rfl) (by kernel_rfl) (by kernel_rfl) (fun _ _ _ h => h) (by rfl) ?_ ?_
  rotate_left
  · intro W hW; have hW0 := Ext.trans E0d.out hW; clear hW; go_simp <;> with_reducible rfl
  try simp only [Act.put, List.setIfInBounds_toArray, List.set_cons_zero, List.set_cons_succ]
  refine ext_take (i := 12) (v := ?_) rfl (by kernel_rfl) (by kernel_rfl) (by kernel_rfl) (fun _ _ _ h => h) (by rfl) ?_ ?_
  rotate_left
  · intro W hW; have hW0 := Ext.trans E0d.out hW; clear hW; go_simp <;> with_reducible rfl
  try simp only [Act.put, List.setIfInBounds_toArray, List.set_cons_zero, List.set_cons_succ]
  refine ext_take (i := 13) (v := ?_) rfl (by kernel_rfl) (by kernel_rfl) (by kernel_rfl) (fun _ _ _ h => h) (by rfl) ?_ ?_
  rotate_left
  · intro W hW; have hW0 := Ext.trans E0d.out hW; clear hW; go_simp <;> with_reducible rfl
  try simp only [Act.put, List.setIfInBounds_toArray, List.set_cons_zero, List.set_cons_succ]
  refine ext_take (i := 14) (v := ?_) rfl (by kernel_rfl) (by kernel_rfl) (by kernel_rfl) (fun _ _ _ h => h) (by rfl) ?_ ?_
  rotate_left
  · intro W hW; have hW0 := Ext.trans E0d.out hW; clear hW; go_simp <;> with_reducible rfl
  try simp only [Act.put, List.setIfInBounds_toArray, List.set_cons_zero, List.set_cons_succ]
  refine ext_take (i := 15) (v := ?_) rfl (by kernel_rfl) (by kernel_rfl) (by kernel_rfl) (fun _ _ _ h => h) (by rfl) ?_ ?_
  rotate_left
  · intro W hW; have hW0 := Ext.trans E0d.out hW; clear hW; go_simp <;> with_reducible rfl
  try simp only [Act.put, List.setIfInBounds_toArray, List.set_cons_zero, List.set_cons_succ]
  refine ext_take (i := 16) (v := ?_) rfl (by kernel_rfl) (by kernel_rfl) (by kernel_rfl) (fun _ _ _ h => h) (by rfl) ?_ ?_
  rotate_left
  · intro W hW; have hW0 := Ext.trans E0d.out hW; clear hW; go_simp <;> with_reducible rfl
  try simp only [Act.put, List.setIfInBounds_toArray, List.set_cons_zero, List.set_cons_succ]
  refine ext_take (i := 17) (v := ?_) rfl (by kernel_rfl) (by kernel_rfl) (by kernel_rfl) (fun _ _ _ h => h) (by rfl) ?_ ?_
  rotate_left
  · intro W hW; have hW0 := Ext.trans E0d.out hW; clear hW; go_simp <;> with_reducible rfl
  try simp only [Act.put, List.setIfInBounds_toArray, List.set_cons_zero, List.set_cons_succ]
  refine ext_take (i := 18) (v := ?_) rfl (by kernel_rfl) (by kernel_rfl) (by kernel_rfl) (fun _ _ _ h => h) (by rfl) ?_ ?_
  rotate_left
  · intro W hW; have hW0 := Ext.trans E0d.out hW; clear hW; go_simp <;> with_reducible rfl
  try simp only [Act.put, List.setIfInBounds_toArray, List.set_cons_zero, List.set_cons_succ]
  refine ext_take (i := 19) (v := ?_) rfl (by kernel_rfl) (by kernel_rfl) (by kernel_rfl) (fun _ _ _ h => h) (by rfl) ?_ ?_
  rotate_left
  · intro W hW; have hW0 := Ext.trans E0d.out hW; clear hW; go_simp <;> with_reducible rfl
  try simp only [Act.put, List.setIfInBounds_toArray, List.set_cons_zero, List.set_cons_succ]
  refine ext_take (i := 20) (v := ?_) rfl (by kernel_rfl) (by kernel_rfl) (by kernel_rfl) (fun _ _ _ h => h) (by rfl) ?_ ?_
  rotate_left
  · intro W hW; have hW0 := Ext.trans E0d.out hW; clear hW; go_simp <;> with_reducible rfl
  try simp only [Act.put, List.setIfInBounds_toArray, List.set_cons_zero, List.set_cons_succ]
  refine ext_take (i := 21) (v := ?_) rfl (by kernel_rfl) (by kernel_rfl) (by kernel_rfl) (fun _ _ _ h => h) (by rfl) ?_ ?_
  rotate_left
  · intro W hW; have hW0 := Ext.trans E0d.out hW; clear hW; go_simp <;> with_reducible rfl
  try simp only [Act.put, List.setIfInBounds_toArray, List.set_cons_zero, List.set_cons_succ]
  refine ext_take (i := 22) (v := ?_) rfl (by kernel_rfl) (by kernel_rfl) (by kernel_rfl) (fun _ _ _ h => h) (by rfl) ?_ ?_
  rotate_left
  · intro W hW; have hW0 := Ext.trans E0d.out hW; clear hW; go_simp <;> with_reducible rfl
  try simp only [Act.put, List.setIfInBounds_toArray, List.set_cons_zero, List.set_cons_succ]
  refine ext_take (i := 23) (v := ?_) rfl (by kernel_rfl) (by kernel_rfl) (by kernel_rfl) (fun _ _ _ h => h) (by rfl) ?_ ?_
  rotate_left
  · intro W hW; have hW0 := Ext.trans E0d.out hW; clear hW; go_simp <;> with_reducible rfl
  try simp only [Act.put, List.setIfInBounds_toArray, List.set_cons_zero, List.set_cons_succ]
  refine ext_take (i := 24) (v := ?_) rfl (by kernel_rfl) (by kernel_rfl) (by kernel_rfl) (fun _ _ _ h => h) (by rfl) ?_ ?_
  rotate_left
  · intro W hW; have hW0 := Ext.trans E0d.out hW; clear hW; go_simp <;> with_reducible rfl
  try simp only [Act.put, List.setIfInBounds_toArray, List.set_cons_zero, List.set_cons_succ]
  refine ext_call (i := 25) rfl (by kernel_rfl) (by rfl) (fun K' hK => ?_)
  go_simp
  (go_at_call 45; (with_reducible refine (CD.out _ E0d.out).mono ?_); rintro e w3 ⟨rfl, hx⟩; refine hK _ _ hx ?_; clear hK)
  have Ew3 := Lib.hid (Ext.trans E0d.out hx)
  clear hx
  try simp only [Act.put, List.setIfInBounds_toArray, List.set_cons_zero, List.set_cons_succ]
  refine ext_take (i := 26) (v := ?_) rfl (by kernel_rfl) (by kernel_rfl) (by kernel_rfl) (fun _ _ _ h => h) (by rfl) ?_ ?_
  rotate_left
  · intro W hW; have hW0 := Ext.trans Ew3.out hW; clear hW; go_simp <;> with_reducible rfl
  try simp only [Act.put, List.setIfInBounds_toArray, List.set_cons_zero, List.set_cons_succ]
  refine ext_take (i := 27) (v := ?_) rfl (by kernel_rfl) (by kernel_rfl) (by kernel_rfl) (fun _ _ _ h => h) (by rfl) ?_ ?_
  rotate_left
  · intro W hW; have hW0 := Ext.trans Ew3.out hW; clear hW; go_simp <;> with_reducible rfl
  try simp only [Act.put, List.setIfInBounds_toArray, List.set_cons_zero, List.set_cons_succ]
  refine wpAnyH_done (by kernel_rfl) ?_ _
  have EX := Lib.hid Ew3.out
  clear Ew3 E0d E0
  go_wp2_with (go_at_call 42; (with_reducible refine (CT.out _ EX.out).mono ?_); rintro e w9 ⟨rfl, hc9, hk9⟩; have HC9 := Lib.hid hc9; have HK9 := Lib.hid hk9; clear hc9 hk9)
  try go_ret
  exact hD.out _ _ ⟨rfl, HC9.out, (Kt.ext EX.out HB.out).trans HK9.out⟩

set_option maxHeartbeats 4000000 in
theorem answer_n (base P : Nat) (id n seq ep : Int) (ns : List Int) (x : Int) (w : World) (H : ClAt base w P ⟨id, n, seq, ep, ns, none⟩) :
    Calls Try.prog 30 #[.pointer (some ⟨P, 0, none⟩), .int .i64 x] w fun e w' => e = .returned (.bool false) ∧ Ext w w' := by
  refine hide_post fun D hD => ?_
  have HB : Hid (base ≤ w.heap.size) := H.lt
  have HCL := Lib.hid H
  obtain ⟨hbP, A, cap, pv, kC, hk, hp⟩ := H
  obtain rfl : pv = .pointer none := hp
  obtain ⟨N, hN⟩ : ∃ N, N = ns.length := ⟨_, rfl⟩
  have kC' : Blk w P 87 #[.int .i64 id, .int .i64 n, .int .i64 seq, .int .i64 ep, .slice A N cap, (.pointer none)] := by rw [hN]; exact kC
  have CI := Lib.hid (is_n base P id n seq ep ns x w HCL.out)
  clear kC kC' hk hN HCL 
  go_enter Try.func30, Try.ntmps30
  go_wp2_with (go_at_call 47; (with_reducible refine CI.out.mono ?_); rintro e w3 ⟨rfl, hx⟩; have X3 := Lib.hid hx; clear hx)
  try go_ret
  exact hD.out _ _ ⟨rfl, X3.out⟩

set_option maxHeartbeats 4000000 in
theorem answer_o (base P : Nat) (id n seq ep : Int) (ns : List Int) (c s k i m : Int) (d : ByteArray) (ak tr : Int) (x : Int) (w : World) (H : ClAt base w P ⟨id, n, seq, ep, ns, some ⟨c, s, k, i, m, d, ak, tr⟩⟩) (hx : ¬ s = x) :
    Calls Try.prog 30 #[.pointer (some ⟨P, 0, none⟩), .int .i64 x] w fun e w' => e = .returned (.bool false) ∧ Ext w w' := by
  refine hide_post fun D hD => ?_
  have HB : Hid (base ≤ w.heap.size) := H.lt
  have HCL := Lib.hid H
  obtain ⟨hbP, A, cap, pv, kC, hk, hp⟩ := H
  obtain ⟨pp, hpp, rfl, kP⟩ := hp
  have kP' : Blk w pp 89 #[.int .i64 c, .int .i64 s, .int .i64 k, .int .i64 i, .int .i64 m, .string d, .int .i64 ak, .int .i64 tr] := kP
  obtain ⟨N, hN⟩ : ∃ N, N = ns.length := ⟨_, rfl⟩
  have kC' : Blk w P 87 #[.int .i64 id, .int .i64 n, .int .i64 seq, .int .i64 ep, .slice A N cap, (.pointer (some ⟨pp, 0, none⟩))] := by rw [hN]; exact kC
  have CI := Lib.hid (is_o base P id n seq ep ns c s k i m d ak tr x w HCL.out hx)
  clear kC kC' hk hN HCL kP kP' hx
  go_enter Try.func30, Try.ntmps30
  go_wp2_with (go_at_call 47; (with_reducible refine CI.out.mono ?_); rintro e w3 ⟨rfl, hx⟩; have X3 := Lib.hid hx; clear hx)
  try go_ret
  exact hD.out _ _ ⟨rfl, X3.out⟩

set_option maxHeartbeats 4000000 in
theorem answer_y (base P : Nat) (id n seq ep : Int) (ns : List Int) (c s k i m : Int) (d : ByteArray) (ak tr : Int) (x : Int) (w : World) (H : ClAt base w P ⟨id, n, seq, ep, ns, some ⟨c, s, k, i, m, d, ak, tr⟩⟩) (hx : s = x) :
    Calls Try.prog 30 #[.pointer (some ⟨P, 0, none⟩), .int .i64 x] w fun e w' => e = .returned (.bool true) ∧ ClAt base w' P ⟨id, n, seq, ep, ns, none⟩ ∧ Kt base w w' := by
  refine hide_post fun D hD => ?_
  have HB : Hid (base ≤ w.heap.size) := H.lt
  have HCL := Lib.hid H
  obtain ⟨hbP, A, cap, pv, kC, hk, hp⟩ := H
  obtain ⟨pp, hpp, rfl, kP⟩ := hp
  have kP' : Blk w pp 89 #[.int .i64 c, .int .i64 s, .int .i64 k, .int .i64 i, .int .i64 m, .string d, .int .i64 ak, .int .i64 tr] := kP
  obtain ⟨N, hN⟩ : ∃ N, N = ns.length := ⟨_, rfl⟩
  have kC' : Blk w P 87 #[.int .i64 id, .int .i64 n, .int .i64 seq, .int .i64 ep, .slice A N cap, (.pointer (some ⟨pp, 0, none⟩))] := by rw [hN]; exact kC
  have CI := Lib.hid (is_y base P id n seq ep ns c s k i m d ak tr x w HCL.out hx)
  have HK := Lib.hid hk
  have HKC := Lib.hid kC'
  have HBP : Hid (base ≤ P) := hbP
  have HN := Lib.hid hN
  clear kC kC' hk hN HCL kP kP' hx hbP
  go_enter Try.func30, Try.ntmps30
  go_wp2_with (go_at_call 47; (with_reducible refine CI.out.mono ?_); rintro e w3 ⟨rfl, hx⟩; have X3 := Lib.hid hx; have kc3 := HKC.out.stay hx; have g0 := kc3.cell 0; have g1 := kc3.cell 1; have g2 := kc3.cell 2; have g3 := kc3.cell 3; have g4 := kc3.cell 4; have g5 := kc3.cell 5; simp at g0 g1 g2 g3 g4 g5; have gf := kc3.frozen 5; have HKC3 := Lib.hid kc3; clear hx kc3)
  obtain ⟨W4, hW4⟩ : ∃ W4, W4 = w3.setCell ⟨P, 5, none⟩ (.pointer none) := ⟨_, rfl⟩
  rw [← hW4]
  have hkt : Kt base w W4 := by rw [hW4]; exact (Kt.ext X3.out HB.out).trans (Kt.set HKC3.out (.inl rfl) HBP.out 5 _)
  have hcl : ClAt base W4 P ⟨id, n, seq, ep, ns, none⟩ := ⟨HBP.out, A, cap, .pointer none, by rw [hW4, ← HN.out]; exact HKC3.out.set 5 _, HK.out.kt hkt, rfl⟩
  have HKT := Lib.hid hkt
  have HCL := Lib.hid hcl
  clear hkt hcl hW4
  try go_wp2_with fail
  try go_ret
  exact hD.out _ _ ⟨rfl, HCL.out, HKT.out⟩

set_option maxRecDepth 8000 in
set_option maxHeartbeats 8000000 in
theorem told_n (base P : Nat) (id n seq ep : Int) (ns : List Int) (x e2 : Int) (A2 : Option Addr) (cap2 : Nat) (l2 : List Int) (w : World) (H : ClAt base w P ⟨id, n, seq, ep, ns, none⟩) (hl2 : l2.length ≤ 1000) (hc2 : l2.length ≤ cap2) (hs2 : Sl i64 w A2 l2) :
    Calls Try.prog 28 #[.pointer (some ⟨P, 0, none⟩), .int .i64 x, .agg #[.int .i64 e2, .slice A2 l2.length cap2]] w fun e w' => e = .returned (.tuple #[]) ∧ Ext w w' := by
  refine hide_post fun D hD => ?_
  have HB : Hid (base ≤ w.heap.size) := H.lt
  have HCL := Lib.hid H
  obtain ⟨hbP, A, cap, pv, kC, hk, hp⟩ := H
  obtain rfl : pv = .pointer none := hp
  obtain ⟨N, hN⟩ : ∃ N, N = ns.length := ⟨_, rfl⟩
  have kC' : Blk w P 87 #[.int .i64 id, .int .i64 n, .int .i64 seq, .int .i64 ep, .slice A N cap, (.pointer none)] := by rw [hN]; exact kC
  obtain ⟨n2, hn2⟩ : ∃ n2, n2 = l2.length := ⟨_, rfl⟩
  rw [← hn2]
  obtain ⟨h0, hh0⟩ : ∃ h0, h0 = w.heap.size := ⟨_, rfl⟩
  obtain ⟨W0, hW0⟩ : ∃ W0, W0 = w.alloc (.cells #[.int .i64 e2, .slice A2 n2 cap2] 59) := ⟨_, rfl⟩
  have kq : Blk W0 h0 59 #[.int .i64 e2, .slice A2 n2 cap2] := by rw [hW0, hh0]; exact Blk.new _ _ _
  have hx0 : Ext w W0 := by rw [hW0]; exact Ext.alloc _ _
  have kC0 := kC'.stay hx0
  have fc0 : ∀ V, Ext W0 V → V.cell? ⟨P, 0, none⟩ = some (.int .i64 id) := fun V h => (kC0.stay h).cell 0
  have fc1 : ∀ V, Ext W0 V → V.cell? ⟨P, 1, none⟩ = some (.int .i64 n) := fun V h => (kC0.stay h).cell 1
  have fc2 : ∀ V, Ext W0 V → V.cell? ⟨P, 2, none⟩ = some (.int .i64 seq) := fun V h => (kC0.stay h).cell 2
  have fc3 : ∀ V, Ext W0 V → V.cell? ⟨P, 3, none⟩ = some (.int .i64 ep) := fun V h => (kC0.stay h).cell 3
  have fc4 : ∀ V, Ext W0 V → V.cell? ⟨P, 4, none⟩ = some (.slice A N cap) := fun V h => (kC0.stay h).cell 4
  have fc5 : ∀ V, Ext W0 V → V.cell? ⟨P, 5, none⟩ = some ((.pointer none)) := fun V h => (kC0.stay h).cell 5
  have fq0 : ∀ V, Ext W0 V → V.cell? ⟨h0, 0, none⟩ = some (.int .i64 e2) := fun V h => (kq.stay h).cell 0
  have fq1 : ∀ V, Ext W0 V → V.cell? ⟨h0, 1, none⟩ = some (.slice A2 n2 cap2) := fun V h => (kq.stay h).cell 1
  have CI : Hid (∀ V, Ext W0 V → Calls Try.prog 47 #[.pointer (some ⟨P, 0, none⟩), .int .i64 x] V fun e w' => e = .returned (.bool false) ∧ Ext V w') := fun V hV => is_n base P id n seq ep ns x V (HCL.out.stay (Ext.trans hx0 hV))
  have HW0 := Lib.hid (And.intro hW0 hh0)
  have HX0 := Lib.hid hx0
  have HKC := Lib.hid kC'
  have HKC0 := Lib.hid kC0
  have HKQ := Lib.hid kq
  have HN := Lib.hid hN
  have HN2 := Lib.hid hn2
  have HBP : Hid (base ≤ P) := hbP
  clear kC kC' kC0 kq hk hN HCL hbP hn2 hl2 hc2 hs2 hW0 hx0 hh0  
  have E0 : Hid (Ext W0 W0) := Ext.refl _
  go_enter Try.func28, Try.ntmps28
  go_wp2_with fail
  rw [← HW0.out.1, ← HW0.out.2]
  refine ext_begin (by kernel_rfl) ?_
  have E0d := Lib.hid (Ext.drewR E0.out)
  refine ext_take (i := 0) (v := ?_) rfl (by kernel_rfl) (by kernel_rfl) (by kernel_rfl) (fun _ _ _ h => h) (by rfl) ?_ ?_
  rotate_left
  · intro W hW; have hW0 := Ext.trans E0d.out hW; clear hW; go_simp <;> with_reducible rfl
  try simp only [Act.put, List.setIfInBounds_toArray, List.set_cons_zero, List.set_cons_succ]
  refine ext_take (i := 1) (v := ?_) rfl (by kernel_rfl) (by kernel_rfl) (by kernel_rfl) (fun _ _ _ h => h) (by rfl) ?_ ?_
  rotate_left
  · intro W hW; have hW0 := Ext.trans E0d.out hW; clear hW; go_simp <;> with_reducible rfl
  try simp only [Act.put, List.setIfInBounds_toArray, List.set_cons_zero, List.set_cons_succ]
  refine ext_call (i := 2) rfl (by kernel_rfl) (by rfl) (fun K' hK => ?_)
  go_simp
  (go_at_call 47; (with_reducible refine (CI.out _ E0d.out).mono ?_); rintro e w3 ⟨rfl, hx⟩; refine hK _ _ hx ?_; clear hK)
  have Ew3 := Lib.hid (Ext.trans E0d.out hx)
  clear hx
  try simp only [Act.put, List.setIfInBounds_toArray, List.set_cons_zero, List.set_cons_succ]
  refine ext_take (i := 3) (v := ?_) rfl (by kernel_rfl) (by kernel_rfl) (by kernel_rfl) (fun _ _ _ h => h) (by rfl) ?_ ?_
  rotate_left
  · intro W hW; have hW0 := Ext.trans Ew3.out hW; clear hW; go_simp <;> with_reducible rfl
  try simp only [Act.put, List.setIfInBounds_toArray, List.set_cons_zero, List.set_cons_succ]
  refine ext_skip (i := 4) rfl (by kernel_rfl) (by kernel_rfl) (by kernel_rfl) (fun _ _ _ h => h) (by rfl) ?_
  try simp only [Act.put, List.setIfInBounds_toArray, List.set_cons_zero, List.set_cons_succ]
  refine ext_skip (i := 5) rfl (by kernel_rfl) (by kernel_rfl) (by kernel_rfl) (fun _ _ _ h => h) (by rfl) ?_
  try simp only [Act.put, List.setIfInBounds_toArray, List.set_cons_zero, List.set_cons_succ]
  refine ext_take (i := 6) (v := ?_) rfl (by kernel_rfl) (by kernel_rfl) (by kernel_rfl) (fun _ _ _ h => h) (by rfl) ?_ ?_
  rotate_left
  · intro W hW; have hW0 := Ext.trans Ew3.out hW; clear hW; go_simp <;> with_reducible rfl
  try simp only [Act.put, List.setIfInBounds_toArray, List.set_cons_zero, List.set_cons_succ]
  refine ext_take (i := 7) (v := ?_) rfl (by kernel_rfl) (by kernel_rfl) (by kernel_rfl) (fun _ _ _ h => h) (by rfl) ?_ ?_
  rotate_left
  · intro W hW; have hW0 := Ext.trans Ew3.out hW; clear hW; go_simp <;> with_reducible rfl
  try simp only [Act.put, List.setIfInBounds_toArray, List.set_cons_zero, List.set_cons_succ]
  refine ext_skip (i := 8) rfl (by kernel_rfl) (by kernel_rfl) (by kernel_rfl) (fun _ _ _ h => h) (by rfl) ?_
  try simp only [Act.put, List.setIfInBounds_toArray, List.set_cons_zero, List.set_cons_succ]
  refine ext_skip (i := 9) rfl (by kernel_rfl) (by kernel_rfl) (by kernel_rfl) (fun _ _ _ h => h) (by rfl) ?_
  try simp only [Act.put, List.setIfInBounds_toArray, List.set_cons_zero, List.set_cons_succ]
  refine ext_skip (i := 10) rfl (by kernel_rfl) (by kernel_rfl) (by kernel_rfl) (fun _ _ _ h => h) (by rfl) ?_
  try simp only [Act.put, List.setIfInBounds_toArray, List.set_cons_zero, List.set_cons_succ]
  refine ext_skip (i := 11) rfl (by kernel_rfl) (by kernel_rfl) (by kernel_rfl) (fun _ _ _ h => h) (by rfl) ?_
  try simp only [Act.put, List.setIfInBounds_toArray, List.set_cons_zero, List.set_cons_succ]
  refine ext_skip (i := 12) rfl (by kernel_rfl) (by kernel_rfl) (by kernel_rfl) (fun _ _ _ h => h) (by rfl) ?_
  try simp only [Act.put, List.setIfInBounds_toArray, List.set_cons_zero, List.set_cons_succ]
  refine ext_skip (i := 13) rfl (by kernel_rfl) (by kernel_rfl) (by kernel_rfl) (fun _ _ _ h => h) (by rfl) ?_
  try simp only [Act.put, List.setIfInBounds_toArray, List.set_cons_zero, List.set_cons_succ]
  refine ext_skip (i := 14) rfl (by kernel_rfl) (by kernel_rfl) (by kernel_rfl) (fun _ _ _ h => h) (by rfl) ?_
  try simp only [Act.put, List.setIfInBounds_toArray, List.set_cons_zero, List.set_cons_succ]
  refine ext_skip (i := 15) rfl (by kernel_rfl) (by kernel_rfl) (by kernel_rfl) (fun _ _ _ h => h) (by rfl) ?_
  try simp only [Act.put, List.setIfInBounds_toArray, List.set_cons_zero, List.set_cons_succ]
  refine ext_take (i := 16) (v := ?_) rfl (by kernel_rfl) (by kernel_rfl) (by kernel_rfl) (fun _ _ _ h => h) (by rfl) ?_ ?_
  rotate_left
  · intro W hW; have hW0 := Ext.trans Ew3.out hW; clear hW; go_simp <;> with_reducible rfl
  try simp only [Act.put, List.setIfInBounds_toArray, List.set_cons_zero, List.set_cons_succ]
  refine wpAnyH_done (by kernel_rfl) ?_ _
  have EX := Lib.hid Ew3.out
  clear Ew3 E0d E0
  try go_wp2_with fail
  all_goals try go_end0
  all_goals exact hD.out _ _ ⟨rfl, Ext.trans HX0.out EX.out⟩

set_option maxRecDepth 8000 in
set_option maxHeartbeats 8000000 in
theorem told_o (base P : Nat) (id n seq ep : Int) (ns : List Int) (c s k i m : Int) (d : ByteArray) (ak tr : Int) (x e2 : Int) (A2 : Option Addr) (cap2 : Nat) (l2 : List Int) (w : World) (H : ClAt base w P ⟨id, n, seq, ep, ns, some ⟨c, s, k, i, m, d, ak, tr⟩⟩) (hl2 : l2.length ≤ 1000) (hc2 : l2.length ≤ cap2) (hs2 : Sl i64 w A2 l2) (hx : ¬ s = x) :
    Calls Try.prog 28 #[.pointer (some ⟨P, 0, none⟩), .int .i64 x, .agg #[.int .i64 e2, .slice A2 l2.length cap2]] w fun e w' => e = .returned (.tuple #[]) ∧ Ext w w' := by
  refine hide_post fun D hD => ?_
  have HB : Hid (base ≤ w.heap.size) := H.lt
  have HCL := Lib.hid H
  obtain ⟨hbP, A, cap, pv, kC, hk, hp⟩ := H
  obtain ⟨pp, hpp, rfl, kP⟩ := hp
  have kP' : Blk w pp 89 #[.int .i64 c, .int .i64 s, .int .i64 k, .int .i64 i, .int .i64 m, .string d, .int .i64 ak, .int .i64 tr] := kP
  obtain ⟨N, hN⟩ : ∃ N, N = ns.length := ⟨_, rfl⟩
  have kC' : Blk w P 87 #[.int .i64 id, .int .i64 n, .int .i64 seq, .int .i64 ep, .slice A N cap, (.pointer (some ⟨pp, 0, none⟩))] := by rw [hN]; exact kC
  obtain ⟨n2, hn2⟩ : ∃ n2, n2 = l2.length := ⟨_, rfl⟩
  rw [← hn2]
  obtain ⟨h0, hh0⟩ : ∃ h0, h0 = w.heap.size := ⟨_, rfl⟩
  obtain ⟨W0, hW0⟩ : ∃ W0, W0 = w.alloc (.cells #[.int .i64 e2, .slice A2 n2 cap2] 59) := ⟨_, rfl⟩
  have kq : Blk W0 h0 59 #[.int .i64 e2, .slice A2 n2 cap2] := by rw [hW0, hh0]; exact Blk.new _ _ _
  have hx0 : Ext w W0 := by rw [hW0]; exact Ext.alloc _ _
  have kC0 := kC'.stay hx0
  have fc0 : ∀ V, Ext W0 V → V.cell? ⟨P, 0, none⟩ = some (.int .i64 id) := fun V h => (kC0.stay h).cell 0
  have fc1 : ∀ V, Ext W0 V → V.cell? ⟨P, 1, none⟩ = some (.int .i64 n) := fun V h => (kC0.stay h).cell 1
  have fc2 : ∀ V, Ext W0 V → V.cell? ⟨P, 2, none⟩ = some (.int .i64 seq) := fun V h => (kC0.stay h).cell 2
  have fc3 : ∀ V, Ext W0 V → V.cell? ⟨P, 3, none⟩ = some (.int .i64 ep) := fun V h => (kC0.stay h).cell 3
  have fc4 : ∀ V, Ext W0 V → V.cell? ⟨P, 4, none⟩ = some (.slice A N cap) := fun V h => (kC0.stay h).cell 4
  have fc5 : ∀ V, Ext W0 V → V.cell? ⟨P, 5, none⟩ = some ((.pointer (some ⟨pp, 0, none⟩))) := fun V h => (kC0.stay h).cell 5
  have fq0 : ∀ V, Ext W0 V → V.cell? ⟨h0, 0, none⟩ = some (.int .i64 e2) := fun V h => (kq.stay h).cell 0
  have fq1 : ∀ V, Ext W0 V → V.cell? ⟨h0, 1, none⟩ = some (.slice A2 n2 cap2) := fun V h => (kq.stay h).cell 1
  have CI : Hid (∀ V, Ext W0 V → Calls Try.prog 47 #[.pointer (some ⟨P, 0, none⟩), .int .i64 x] V fun e w' => e = .returned (.bool false) ∧ Ext V w') := fun V hV => is_o base P id n seq ep ns c s k i m d ak tr x V (HCL.out.stay (Ext.trans hx0 hV)) hx
  have HW0 := Lib.hid (And.intro hW0 hh0)
  have HX0 := Lib.hid hx0
  have HKC := Lib.hid kC'
  have HKC0 := Lib.hid kC0
  have HKQ := Lib.hid kq
  have HN := Lib.hid hN
  have HN2 := Lib.hid hn2
  have HBP : Hid (base ≤ P) := hbP
  clear kC kC' kC0 kq hk hN HCL hbP hn2 hl2 hc2 hs2 hW0 hx0 hh0 kP kP' hx 
  have E0 : Hid (Ext W0 W0) := Ext.refl _
  go_enter Try.func28, Try.ntmps28
  go_wp2_with fail
  rw [← HW0.out.1, ← HW0.out.2]
  refine ext_begin (by kernel_rfl) ?_
  have E0d := Lib.hid (Ext.drewR E0.out)
  refine ext_take (i := 0) (v := ?_) rfl (by kernel_rfl) (by kernel_rfl) (by kernel_rfl) (fun _ _ _ h => h) (by rfl) ?_ ?_
  rotate_left
  · intro W hW; have hW0 := Ext.trans E0d.out hW; clear hW; go_simp <;> with_reducible rfl
  try simp only [Act.put, List.setIfInBounds_toArray, List.set_cons_zero, List.set_cons_succ]
  refine ext_take (i := 1) (v := ?_) rfl (by kernel_rfl) (by kernel_rfl) (by kernel_rfl) (fun _ _ _ h => h) (by rfl) ?_ ?_
  rotate_left
  · intro W hW; have hW0 := Ext.trans E0d.out hW; clear hW; go_simp <;> with_reducible rfl
  try simp only [Act.put, List.setIfInBounds_toArray, List.set_cons_zero, List.set_cons_succ]
  refine ext_call (i := 2) rfl (by kernel_rfl) (by rfl) (fun K' hK => ?_)
  go_simp
  (go_at_call 47; (with_reducible refine (CI.out _ E0d.out).mono ?_); rintro e w3 ⟨rfl, hx⟩; refine hK _ _ hx ?_; clear hK)
  have Ew3 := Lib.hid (Ext.trans E0d.out hx)
  clear hx
  try simp only [Act.put, List.setIfInBounds_toArray, List.set_cons_zero, List.set_cons_succ]
  refine ext_take (i := 3) (v := ?_) rfl (by kernel_rfl) (by kernel_rfl) (by kernel_rfl) (fun _ _ _ h => h) (by rfl) ?_ ?_
  rotate_left
  · intro W hW; have hW0 := Ext.trans Ew3.out hW; clear hW; go_simp <;> with_reducible rfl
  try simp only [Act.put, List.setIfInBounds_toArray, List.set_cons_zero, List.set_cons_succ]
  refine ext_skip (i := 4) rfl (by kernel_rfl) (by kernel_rfl) (by kernel_rfl) (fun _ _ _ h => h) (by rfl) ?_
  try simp only [Act.put, List.setIfInBounds_toArray, List.set_cons_zero, List.set_cons_succ]
  refine ext_skip (i := 5) rfl (by kernel_rfl) (by kernel_rfl) (by kernel_rfl) (fun _ _ _ h => h) (by rfl) ?_
  try simp only [Act.put, List.setIfInBounds_toArray, List.set_cons_zero, List.set_cons_succ]
  refine ext_take (i := 6) (v := ?_) rfl (by kernel_rfl) (by kernel_rfl) (by kernel_rfl) (fun _ _ _ h => h) (by rfl) ?_ ?_
  rotate_left
  · intro W hW; have hW0 := Ext.trans Ew3.out hW; clear hW; go_simp <;> with_reducible rfl
  try simp only [Act.put, List.setIfInBounds_toArray, List.set_cons_zero, List.set_cons_succ]
  refine ext_take (i := 7) (v := ?_) rfl (by kernel_rfl) (by kernel_rfl) (by kernel_rfl) (fun _ _ _ h => h) (by rfl) ?_ ?_
  rotate_left
  · intro W hW; have hW0 := Ext.trans Ew3.out hW; clear hW; go_simp <;> with_reducible rfl
  try simp only [Act.put, List.setIfInBounds_toArray, List.set_cons_zero, List.set_cons_succ]
  refine ext_skip (i := 8) rfl (by kernel_rfl) (by kernel_rfl) (by kernel_rfl) (fun _ _ _ h => h) (by rfl) ?_
  try simp only [Act.put, List.setIfInBounds_toArray, List.set_cons_zero, List.set_cons_succ]
  refine ext_skip (i := 9) rfl (by kernel_rfl) (by kernel_rfl) (by kernel_rfl) (fun _ _ _ h => h) (by rfl) ?_
  try simp only [Act.put, List.setIfInBounds_toArray, List.set_cons_zero, List.set_cons_succ]
  refine ext_skip (i := 10) rfl (by kernel_rfl) (by kernel_rfl) (by kernel_rfl) (fun _ _ _ h => h) (by rfl) ?_
  try simp only [Act.put, List.setIfInBounds_toArray, List.set_cons_zero, List.set_cons_succ]
  refine ext_skip (i := 11) rfl (by kernel_rfl) (by kernel_rfl) (by kernel_rfl) (fun _ _ _ h => h) (by rfl) ?_
  try simp only [Act.put, List.setIfInBounds_toArray, List.set_cons_zero, List.set_cons_succ]
  refine ext_skip (i := 12) rfl (by kernel_rfl) (by kernel_rfl) (by kernel_rfl) (fun _ _ _ h => h) (by rfl) ?_
  try simp only [Act.put, List.setIfInBounds_toArray, List.set_cons_zero, List.set_cons_succ]
  refine ext_skip (i := 13) rfl (by kernel_rfl) (by kernel_rfl) (by kernel_rfl) (fun _ _ _ h => h) (by rfl) ?_
  try simp only [Act.put, List.setIfInBounds_toArray, List.set_cons_zero, List.set_cons_succ]
  refine ext_skip (i := 14) rfl (by kernel_rfl) (by kernel_rfl) (by kernel_rfl) (fun _ _ _ h => h) (by rfl) ?_
  try simp only [Act.put, List.setIfInBounds_toArray, List.set_cons_zero, List.set_cons_succ]
  refine ext_skip (i := 15) rfl (by kernel_rfl) (by kernel_rfl) (by kernel_rfl) (fun _ _ _ h => h) (by rfl) ?_
  try simp only [Act.put, List.setIfInBounds_toArray, List.set_cons_zero, List.set_cons_succ]
  refine ext_take (i := 16) (v := ?_) rfl (by kernel_rfl) (by kernel_rfl) (by kernel_rfl) (fun _ _ _ h => h) (by rfl) ?_ ?_
  rotate_left
  · intro W hW; have hW0 := Ext.trans Ew3.out hW; clear hW; go_simp <;> with_reducible rfl
  try simp only [Act.put, List.setIfInBounds_toArray, List.set_cons_zero, List.set_cons_succ]
  refine wpAnyH_done (by kernel_rfl) ?_ _
  have EX := Lib.hid Ew3.out
  clear Ew3 E0d E0
  try go_wp2_with fail
  all_goals try go_end0
  all_goals exact hD.out _ _ ⟨rfl, Ext.trans HX0.out EX.out⟩

set_option maxRecDepth 8000 in
set_option maxHeartbeats 8000000 in
theorem told_b (base P : Nat) (id n seq ep : Int) (ns : List Int) (c s k i m : Int) (d : ByteArray) (ak tr : Int) (x e2 : Int) (A2 : Option Addr) (cap2 : Nat) (l2 : List Int) (w : World) (H : ClAt base w P ⟨id, n, seq, ep, ns, some ⟨c, s, k, i, m, d, ak, tr⟩⟩) (hl2 : l2.length ≤ 1000) (hc2 : l2.length ≤ cap2) (hs2 : Sl i64 w A2 l2) (hx : s = x) (hm : mayChainB e2 l2 = false) :
    Calls Try.prog 28 #[.pointer (some ⟨P, 0, none⟩), .int .i64 x, .agg #[.int .i64 e2, .slice A2 l2.length cap2]] w fun e w' => e = .returned (.tuple #[]) ∧ Ext w w' := by
  refine hide_post fun D hD => ?_
  have HB : Hid (base ≤ w.heap.size) := H.lt
  have HCL := Lib.hid H
  obtain ⟨hbP, A, cap, pv, kC, hk, hp⟩ := H
  obtain ⟨pp, hpp, rfl, kP⟩ := hp
  have kP' : Blk w pp 89 #[.int .i64 c, .int .i64 s, .int .i64 k, .int .i64 i, .int .i64 m, .string d, .int .i64 ak, .int .i64 tr] := kP
  obtain ⟨N, hN⟩ : ∃ N, N = ns.length := ⟨_, rfl⟩
  have kC' : Blk w P 87 #[.int .i64 id, .int .i64 n, .int .i64 seq, .int .i64 ep, .slice A N cap, (.pointer (some ⟨pp, 0, none⟩))] := by rw [hN]; exact kC
  obtain ⟨n2, hn2⟩ : ∃ n2, n2 = l2.length := ⟨_, rfl⟩
  rw [← hn2]
  obtain ⟨h0, hh0⟩ : ∃ h0, h0 = w.heap.size := ⟨_, rfl⟩
  obtain ⟨W0, hW0⟩ : ∃ W0, W0 = w.alloc (.cells #[.int .i64 e2, .slice A2 n2 cap2] 59) := ⟨_, rfl⟩
  have kq : Blk W0 h0 59 #[.int .i64 e2, .slice A2 n2 cap2] := by rw [hW0, hh0]; exact Blk.new _ _ _
  have hx0 : Ext w W0 := by rw [hW0]; exact Ext.alloc _ _
  have kC0 := kC'.stay hx0
  have fc0 : ∀ V, Ext W0 V → V.cell? ⟨P, 0, none⟩ = some (.int .i64 id) := fun V h => (kC0.stay h).cell 0
  have fc1 : ∀ V, Ext W0 V → V.cell? ⟨P, 1, none⟩ = some (.int .i64 n) := fun V h => (kC0.stay h).cell 1
  have fc2 : ∀ V, Ext W0 V → V.cell? ⟨P, 2, none⟩ = some (.int .i64 seq) := fun V h => (kC0.stay h).cell 2
  have fc3 : ∀ V, Ext W0 V → V.cell? ⟨P, 3, none⟩ = some (.int .i64 ep) := fun V h => (kC0.stay h).cell 3
  have fc4 : ∀ V, Ext W0 V → V.cell? ⟨P, 4, none⟩ = some (.slice A N cap) := fun V h => (kC0.stay h).cell 4
  have fc5 : ∀ V, Ext W0 V → V.cell? ⟨P, 5, none⟩ = some ((.pointer (some ⟨pp, 0, none⟩))) := fun V h => (kC0.stay h).cell 5
  have fq0 : ∀ V, Ext W0 V → V.cell? ⟨h0, 0, none⟩ = some (.int .i64 e2) := fun V h => (kq.stay h).cell 0
  have fq1 : ∀ V, Ext W0 V → V.cell? ⟨h0, 1, none⟩ = some (.slice A2 n2 cap2) := fun V h => (kq.stay h).cell 1
  have CI : Hid (∀ V, Ext W0 V → Calls Try.prog 47 #[.pointer (some ⟨P, 0, none⟩), .int .i64 x] V fun e w' => e = .returned (.bool true) ∧ Ext V w') := fun V hV => is_y base P id n seq ep ns c s k i m d ak tr x V (HCL.out.stay (Ext.trans hx0 hV)) hx
  have CM : Hid (∀ V, Ext W0 V → Calls Try.prog 48 #[.agg #[.int .i64 e2, .slice A2 n2 cap2]] V fun e w' => e = .returned (.bool false) ∧ Ext V w') := fun V hV => by rw [← hm, hn2]; exact mayChain_any e2 A2 cap2 l2 V (by omega) hc2 (hs2.stay (Ext.trans hx0 hV))
  have HW0 := Lib.hid (And.intro hW0 hh0)
  have HX0 := Lib.hid hx0
  have HKC := Lib.hid kC'
  have HKC0 := Lib.hid kC0
  have HKQ := Lib.hid kq
  have HN := Lib.hid hN
  have HN2 := Lib.hid hn2
  have HBP : Hid (base ≤ P) := hbP
  clear kC kC' kC0 kq hk hN HCL hbP hn2 hl2 hc2 hs2 hW0 hx0 hh0 kP kP' hx hm
  have E0 : Hid (Ext W0 W0) := Ext.refl _
  go_enter Try.func28, Try.ntmps28
  go_wp2_with fail
  rw [← HW0.out.1, ← HW0.out.2]
  refine ext_begin (by kernel_rfl) ?_
  have E0d := Lib.hid (Ext.drewR E0.out)
  refine ext_take (i := 0) (v := ?_) rfl (by kernel_rfl) (by kernel_rfl) (by kernel_rfl) (fun _ _ _ h => h) (by rfl) ?_ ?_
  rotate_left
  · intro W hW; have hW0 := Ext.trans E0d.out hW; clear hW; go_simp <;> with_reducible rfl
  try simp only [Act.put, List.setIfInBounds_toArray, List.set_cons_zero, List.set_cons_succ]
  refine ext_take (i := 1) (v := ?_) rfl (by kernel_rfl) (by kernel_rfl) (by kernel_rfl) (fun _ _ _ h => h) (by rfl) ?_ ?_
  rotate_left
  · intro W hW; have hW0 := Ext.trans E0d.out hW; clear hW; go_simp <;> with_reducible rfl
  try simp only [Act.put, List.setIfInBounds_toArray, List.set_cons_zero, List.set_cons_succ]
  refine ext_call (i := 2) rfl (by kernel_rfl) (by rfl) (fun K' hK => ?_)
  go_simp
  (go_at_call 47; (with_reducible refine (CI.out _ E0d.out).mono ?_); rintro e w3 ⟨rfl, hx⟩; refine hK _ _ hx ?_; clear hK)
  have Ew3 := Lib.hid (Ext.trans E0d.out hx)
  clear hx
  try simp only [Act.put, List.setIfInBounds_toArray, List.set_cons_zero, List.set_cons_succ]
  refine ext_take (i := 3) (v := ?_) rfl (by kernel_rfl) (by kernel_rfl) (by kernel_rfl) (fun _ _ _ h => h) (by rfl) ?_ ?_
  rotate_left
  · intro W hW; have hW0 := Ext.trans Ew3.out hW; clear hW; go_simp <;> with_reducible rfl
  try simp only [Act.put, List.setIfInBounds_toArray, List.set_cons_zero, List.set_cons_succ]
  refine ext_take (i := 4) (v := ?_) rfl (by kernel_rfl) (by kernel_rfl) (by kernel_rfl) (fun _ _ _ h => h) (by rfl) ?_ ?_
  rotate_left
  · intro W hW; have hW0 := Ext.trans Ew3.out hW; clear hW; go_simp <;> with_reducible rfl
  try simp only [Act.put, List.setIfInBounds_toArray, List.set_cons_zero, List.set_cons_succ]
  refine ext_call (i := 5) rfl (by kernel_rfl) (by rfl) (fun K' hK => ?_)
  go_simp
  (go_at_call 48; (with_reducible refine (CM.out _ Ew3.out).mono ?_); rintro e w4 ⟨rfl, hx⟩; refine hK _ _ hx ?_; clear hK)
  have Ew4 := Lib.hid (Ext.trans Ew3.out hx)
  clear hx
  try simp only [Act.put, List.setIfInBounds_toArray, List.set_cons_zero, List.set_cons_succ]
  refine ext_take (i := 6) (v := ?_) rfl (by kernel_rfl) (by kernel_rfl) (by kernel_rfl) (fun _ _ _ h => h) (by rfl) ?_ ?_
  rotate_left
  · intro W hW; have hW0 := Ext.trans Ew4.out hW; clear hW; go_simp <;> with_reducible rfl
  try simp only [Act.put, List.setIfInBounds_toArray, List.set_cons_zero, List.set_cons_succ]
  refine ext_take (i := 7) (v := ?_) rfl (by kernel_rfl) (by kernel_rfl) (by kernel_rfl) (fun _ _ _ h => h) (by rfl) ?_ ?_
  rotate_left
  · intro W hW; have hW0 := Ext.trans Ew4.out hW; clear hW; go_simp <;> with_reducible rfl
  try simp only [Act.put, List.setIfInBounds_toArray, List.set_cons_zero, List.set_cons_succ]
  refine ext_skip (i := 8) rfl (by kernel_rfl) (by kernel_rfl) (by kernel_rfl) (fun _ _ _ h => h) (by rfl) ?_
  try simp only [Act.put, List.setIfInBounds_toArray, List.set_cons_zero, List.set_cons_succ]
  refine ext_skip (i := 9) rfl (by kernel_rfl) (by kernel_rfl) (by kernel_rfl) (fun _ _ _ h => h) (by rfl) ?_
  try simp only [Act.put, List.setIfInBounds_toArray, List.set_cons_zero, List.set_cons_succ]
  refine ext_skip (i := 10) rfl (by kernel_rfl) (by kernel_rfl) (by kernel_rfl) (fun _ _ _ h => h) (by rfl) ?_
  try simp only [Act.put, List.setIfInBounds_toArray, List.set_cons_zero, List.set_cons_succ]
  refine ext_skip (i := 11) rfl (by kernel_rfl) (by kernel_rfl) (by kernel_rfl) (fun _ _ _ h => h) (by rfl) ?_
  try simp only [Act.put, List.setIfInBounds_toArray, List.set_cons_zero, List.set_cons_succ]
  refine ext_skip (i := 12) rfl (by kernel_rfl) (by kernel_rfl) (by kernel_rfl) (fun _ _ _ h => h) (by rfl) ?_
  try simp only [Act.put, List.setIfInBounds_toArray, List.set_cons_zero, List.set_cons_succ]
  refine ext_skip (i := 13) rfl (by kernel_rfl) (by kernel_rfl) (by kernel_rfl) (fun _ _ _ h => h) (by rfl) ?_
  try simp only [Act.put, List.setIfInBounds_toArray, List.set_cons_zero, List.set_cons_succ]
  refine ext_skip (i := 14) rfl (by kernel_rfl) (by kernel_rfl) (by kernel_rfl) (fun _ _ _ h => h) (by rfl) ?_
  try simp only [Act.put, List.setIfInBounds_toArray, List.set_cons_zero, List.set_cons_succ]
  refine ext_skip (i := 15) rfl (by kernel_rfl) (by kernel_rfl) (by kernel_rfl) (fun _ _ _ h => h) (by rfl) ?_
  try simp only [Act.put, List.setIfInBounds_toArray, List.set_cons_zero, List.set_cons_succ]
  refine ext_take (i := 16) (v := ?_) rfl (by kernel_rfl) (by kernel_rfl) (by kernel_rfl) (fun _ _ _ h => h) (by rfl) ?_ ?_
  rotate_left
  · intro W hW; have hW0 := Ext.trans Ew4.out hW; clear hW; go_simp <;> with_reducible rfl
  try simp only [Act.put, List.setIfInBounds_toArray, List.set_cons_zero, List.set_cons_succ]
  refine wpAnyH_done (by kernel_rfl) ?_ _
  have EX := Lib.hid Ew4.out
  clear Ew4 E0d E0
  try go_wp2_with fail
  all_goals try go_end0
  all_goals exact hD.out _ _ ⟨rfl, Ext.trans HX0.out EX.out⟩

set_option maxRecDepth 8000 in
set_option maxHeartbeats 8000000 in
theorem told_e (base P : Nat) (id n seq ep : Int) (ns : List Int) (c s k i m : Int) (d : ByteArray) (ak tr : Int) (x e2 : Int) (A2 : Option Addr) (cap2 : Nat) (l2 : List Int) (w : World) (H : ClAt base w P ⟨id, n, seq, ep, ns, some ⟨c, s, k, i, m, d, ak, tr⟩⟩) (hl2 : l2.length ≤ 1000) (hc2 : l2.length ≤ cap2) (hs2 : Sl i64 w A2 l2) (hx : s = x) (hm : mayChainB e2 l2 = true) (he : e2 < ep) :
    Calls Try.prog 28 #[.pointer (some ⟨P, 0, none⟩), .int .i64 x, .agg #[.int .i64 e2, .slice A2 l2.length cap2]] w fun e w' => e = .returned (.tuple #[]) ∧ Ext w w' := by
  refine hide_post fun D hD => ?_
  have HB : Hid (base ≤ w.heap.size) := H.lt
  have HCL := Lib.hid H
  obtain ⟨hbP, A, cap, pv, kC, hk, hp⟩ := H
  obtain ⟨pp, hpp, rfl, kP⟩ := hp
  have kP' : Blk w pp 89 #[.int .i64 c, .int .i64 s, .int .i64 k, .int .i64 i, .int .i64 m, .string d, .int .i64 ak, .int .i64 tr] := kP
  obtain ⟨N, hN⟩ : ∃ N, N = ns.length := ⟨_, rfl⟩
  have kC' : Blk w P 87 #[.int .i64 id, .int .i64 n, .int .i64 seq, .int .i64 ep, .slice A N cap, (.pointer (some ⟨pp, 0, none⟩))] := by rw [hN]; exact kC
  obtain ⟨n2, hn2⟩ : ∃ n2, n2 = l2.length := ⟨_, rfl⟩
  rw [← hn2]
  obtain ⟨h0, hh0⟩ : ∃ h0, h0 = w.heap.size := ⟨_, rfl⟩
  obtain ⟨W0, hW0⟩ : ∃ W0, W0 = w.alloc (.cells #[.int .i64 e2, .slice A2 n2 cap2] 59) := ⟨_, rfl⟩
  have kq : Blk W0 h0 59 #[.int .i64 e2, .slice A2 n2 cap2] := by rw [hW0, hh0]; exact Blk.new _ _ _
  have hx0 : Ext w W0 := by rw [hW0]; exact Ext.alloc _ _
  have kC0 := kC'.stay hx0
  have fc0 : ∀ V, Ext W0 V → V.cell? ⟨P, 0, none⟩ = some (.int .i64 id) := fun V h => (kC0.stay h).cell 0
  have fc1 : ∀ V, Ext W0 V → V.cell? ⟨P, 1, none⟩ = some (.int .i64 n) := fun V h => (kC0.stay h).cell 1
  have fc2 : ∀ V, Ext W0 V → V.cell? ⟨P, 2, none⟩ = some (.int .i64 seq) := fun V h => (kC0.stay h).cell 2
  have fc3 : ∀ V, Ext W0 V → V.cell? ⟨P, 3, none⟩ = some (.int .i64 ep) := fun V h => (kC0.stay h).cell 3
  have fc4 : ∀ V, Ext W0 V → V.cell? ⟨P, 4, none⟩ = some (.slice A N cap) := fun V h => (kC0.stay h).cell 4
  have fc5 : ∀ V, Ext W0 V → V.cell? ⟨P, 5, none⟩ = some ((.pointer (some ⟨pp, 0, none⟩))) := fun V h => (kC0.stay h).cell 5
  have fq0 : ∀ V, Ext W0 V → V.cell? ⟨h0, 0, none⟩ = some (.int .i64 e2) := fun V h => (kq.stay h).cell 0
  have fq1 : ∀ V, Ext W0 V → V.cell? ⟨h0, 1, none⟩ = some (.slice A2 n2 cap2) := fun V h => (kq.stay h).cell 1
  have CI : Hid (∀ V, Ext W0 V → Calls Try.prog 47 #[.pointer (some ⟨P, 0, none⟩), .int .i64 x] V fun e w' => e = .returned (.bool true) ∧ Ext V w') := fun V hV => is_y base P id n seq ep ns c s k i m d ak tr x V (HCL.out.stay (Ext.trans hx0 hV)) hx
  have CM : Hid (∀ V, Ext W0 V → Calls Try.prog 48 #[.agg #[.int .i64 e2, .slice A2 n2 cap2]] V fun e w' => e = .returned (.bool true) ∧ Ext V w') := fun V hV => by rw [← hm, hn2]; exact mayChain_any e2 A2 cap2 l2 V (by omega) hc2 (hs2.stay (Ext.trans hx0 hV))
  have HW0 := Lib.hid (And.intro hW0 hh0)
  have HX0 := Lib.hid hx0
  have HKC := Lib.hid kC'
  have HKC0 := Lib.hid kC0
  have HKQ := Lib.hid kq
  have HN := Lib.hid hN
  have HN2 := Lib.hid hn2
  have HBP : Hid (base ≤ P) := hbP
  clear kC kC' kC0 kq hk hN HCL hbP hn2 hl2 hc2 hs2 hW0 hx0 hh0 kP kP' hx hm
  have E0 : Hid (Ext W0 W0) := Ext.refl _
  go_enter Try.func28, Try.ntmps28
  go_wp2_with fail
  rw [← HW0.out.1, ← HW0.out.2]
  refine ext_begin (by kernel_rfl) ?_
  have E0d := Lib.hid (Ext.drewR E0.out)
  refine ext_take (i := 0) (v := ?_) rfl (by kernel_rfl) (by kernel_rfl) (by kernel_rfl) (fun _ _ _ h => h) (by rfl) ?_ ?_
  rotate_left
  · intro W hW; have hW0 := Ext.trans E0d.out hW; clear hW; go_simp <;> with_reducible rfl
  try simp only [Act.put, List.setIfInBounds_toArray, List.set_cons_zero, List.set_cons_succ]
  refine ext_take (i := 1) (v := ?_) rfl (by kernel_rfl) (by kernel_rfl) (by kernel_rfl) (fun _ _ _ h => h) (by rfl) ?_ ?_
  rotate_left
  · intro W hW; have hW0 := Ext.trans E0d.out hW; clear hW; go_simp <;> with_reducible rfl
  try simp only [Act.put, List.setIfInBounds_toArray, List.set_cons_zero, List.set_cons_succ]
  refine ext_call (i := 2) rfl (by kernel_rfl) (by rfl) (fun K' hK => ?_)
  go_simp
  (go_at_call 47; (with_reducible refine (CI.out _ E0d.out).mono ?_); rintro e w3 ⟨rfl, hx⟩; refine hK _ _ hx ?_; clear hK)
  have Ew3 := Lib.hid (Ext.trans E0d.out hx)
  clear hx
  try simp only [Act.put, List.setIfInBounds_toArray, List.set_cons_zero, List.set_cons_succ]
  refine ext_take (i := 3) (v := ?_) rfl (by kernel_rfl) (by kernel_rfl) (by kernel_rfl) (fun _ _ _ h => h) (by rfl) ?_ ?_
  rotate_left
  · intro W hW; have hW0 := Ext.trans Ew3.out hW; clear hW; go_simp <;> with_reducible rfl
  try simp only [Act.put, List.setIfInBounds_toArray, List.set_cons_zero, List.set_cons_succ]
  refine ext_take (i := 4) (v := ?_) rfl (by kernel_rfl) (by kernel_rfl) (by kernel_rfl) (fun _ _ _ h => h) (by rfl) ?_ ?_
  rotate_left
  · intro W hW; have hW0 := Ext.trans Ew3.out hW; clear hW; go_simp <;> with_reducible rfl
  try simp only [Act.put, List.setIfInBounds_toArray, List.set_cons_zero, List.set_cons_succ]
  refine ext_call (i := 5) rfl (by kernel_rfl) (by rfl) (fun K' hK => ?_)
  go_simp
  (go_at_call 48; (with_reducible refine (CM.out _ Ew3.out).mono ?_); rintro e w4 ⟨rfl, hx⟩; refine hK _ _ hx ?_; clear hK)
  have Ew4 := Lib.hid (Ext.trans Ew3.out hx)
  clear hx
  try simp only [Act.put, List.setIfInBounds_toArray, List.set_cons_zero, List.set_cons_succ]
  refine ext_take (i := 6) (v := ?_) rfl (by kernel_rfl) (by kernel_rfl) (by kernel_rfl) (fun _ _ _ h => h) (by rfl) ?_ ?_
  rotate_left
  · intro W hW; have hW0 := Ext.trans Ew4.out hW; clear hW; go_simp <;> with_reducible rfl
  try simp only [Act.put, List.setIfInBounds_toArray, List.set_cons_zero, List.set_cons_succ]
  refine ext_take (i := 7) (v := ?_) rfl (by kernel_rfl) (by kernel_rfl) (by kernel_rfl) (fun _ _ _ h => h) (by rfl) ?_ ?_
  rotate_left
  · intro W hW; have hW0 := Ext.trans Ew4.out hW; clear hW; go_simp <;> with_reducible rfl
  try simp only [Act.put, List.setIfInBounds_toArray, List.set_cons_zero, List.set_cons_succ]
  refine ext_take (i := 8) (v := ?_) rfl (by kernel_rfl) (by kernel_rfl) (by kernel_rfl) (fun _ _ _ h => h) (by rfl) ?_ ?_
  rotate_left
  · intro W hW; have hW0 := Ext.trans Ew4.out hW; clear hW; go_simp <;> with_reducible rfl
  try simp only [Act.put, List.setIfInBounds_toArray, List.set_cons_zero, List.set_cons_succ]
  refine ext_take (i := 9) (v := ?_) rfl (by kernel_rfl) (by kernel_rfl) (by kernel_rfl) (fun _ _ _ h => h) (by rfl) ?_ ?_
  rotate_left
  · intro W hW; have hW0 := Ext.trans Ew4.out hW; clear hW; go_simp <;> with_reducible rfl
  try simp only [Act.put, List.setIfInBounds_toArray, List.set_cons_zero, List.set_cons_succ]
  refine ext_take (i := 10) (v := ?_) rfl (by kernel_rfl) (by kernel_rfl) (by kernel_rfl) (fun _ _ _ h => h) (by rfl) ?_ ?_
  rotate_left
  · intro W hW; have hW0 := Ext.trans Ew4.out hW; clear hW; go_simp <;> with_reducible rfl
  try simp only [Act.put, List.setIfInBounds_toArray, List.set_cons_zero, List.set_cons_succ]
  refine ext_take (i := 11) (v := ?_) rfl (by kernel_rfl) (by kernel_rfl) (by kernel_rfl) (fun _ _ _ h => h) (by rfl) ?_ ?_
  rotate_left
  · intro W hW; have hW0 := Ext.trans Ew4.out hW; clear hW; go_simp <;> with_reducible rfl
  try simp only [Act.put, List.setIfInBounds_toArray, List.set_cons_zero, List.set_cons_succ]
  refine ext_take (i := 12) (v := ?_) rfl (by kernel_rfl) (by kernel_rfl) (by kernel_rfl) (fun _ _ _ h => h) (by rfl) ?_ ?_
  rotate_left
  · intro W hW; have hW0 := Ext.trans Ew4.out hW; clear hW; go_simp <;> with_reducible rfl
  try simp only [Act.put, List.setIfInBounds_toArray, List.set_cons_zero, List.set_cons_succ]
  refine ext_take (i := 13) (v := ?_) rfl (by kernel_rfl) (by kernel_rfl) (by kernel_rfl) (fun _ _ _ h => h) (by rfl) ?_ ?_
  rotate_left
  · intro W hW; have hW0 := Ext.trans Ew4.out hW; clear hW; go_simp <;> with_reducible rfl
  try simp only [Act.put, List.setIfInBounds_toArray, List.set_cons_zero, List.set_cons_succ]
  refine ext_take (i := 14) (v := ?_) rfl (by kernel_rfl) (by kernel_rfl) (by kernel_rfl) (fun _ _ _ h => h) (by rfl) ?_ ?_
  rotate_left
  · intro W hW; have hW0 := Ext.trans Ew4.out hW; clear hW; go_simp <;> with_reducible rfl
  try simp only [Act.put, List.setIfInBounds_toArray, List.set_cons_zero, List.set_cons_succ]
  refine ext_take (i := 15) (v := .bool false) rfl (by kernel_rfl) (by kernel_rfl) (by kernel_rfl) (fun _ _ _ h => h) (by rfl) ?_ ?_
  · intro W hW; have hW0 := Ext.trans Ew4.out hW; clear hW; go_simp; all_goals (first | done | omega | (simp; omega))
  try simp only [Act.put, List.setIfInBounds_toArray, List.set_cons_zero, List.set_cons_succ]
  refine ext_take (i := 16) (v := ?_) rfl (by kernel_rfl) (by kernel_rfl) (by kernel_rfl) (fun _ _ _ h => h) (by rfl) ?_ ?_
  rotate_left
  · intro W hW; have hW0 := Ext.trans Ew4.out hW; clear hW; go_simp <;> with_reducible rfl
  try simp only [Act.put, List.setIfInBounds_toArray, List.set_cons_zero, List.set_cons_succ]
  refine wpAnyH_done (by kernel_rfl) ?_ _
  have EX := Lib.hid Ew4.out
  clear Ew4 E0d E0
  try go_wp2_with fail
  all_goals try go_end0
  all_goals exact hD.out _ _ ⟨rfl, Ext.trans HX0.out EX.out⟩

set_option maxRecDepth 8000 in
set_option maxHeartbeats 8000000 in
theorem told_y (base P : Nat) (id n seq ep : Int) (ns : List Int) (c s k i m : Int) (d : ByteArray) (ak tr : Int) (x e2 : Int) (A2 : Option Addr) (cap2 : Nat) (l2 : List Int) (w : World) (H : ClAt base w P ⟨id, n, seq, ep, ns, some ⟨c, s, k, i, m, d, ak, tr⟩⟩) (hl2 : l2.length ≤ 1000) (hc2 : l2.length ≤ cap2) (hs2 : Sl i64 w A2 l2) (hx : s = x) (hm : mayChainB e2 l2 = true) (he : ep ≤ e2) :
    Calls Try.prog 28 #[.pointer (some ⟨P, 0, none⟩), .int .i64 x, .agg #[.int .i64 e2, .slice A2 l2.length cap2]] w fun e w' => e = .returned (.tuple #[]) ∧ ClAt base w' P ⟨id, n, seq, e2, l2, some ⟨c, s, k, i, m, d, ak, tr⟩⟩ ∧ Kt base w w' := by
  refine hide_post fun D hD => ?_
  have HB : Hid (base ≤ w.heap.size) := H.lt
  have HCL := Lib.hid H
  obtain ⟨hbP, A, cap, pv, kC, hk, hp⟩ := H
  obtain ⟨pp, hpp, rfl, kP⟩ := hp
  have kP' : Blk w pp 89 #[.int .i64 c, .int .i64 s, .int .i64 k, .int .i64 i, .int .i64 m, .string d, .int .i64 ak, .int .i64 tr] := kP
  obtain ⟨N, hN⟩ : ∃ N, N = ns.length := ⟨_, rfl⟩
  have kC' : Blk w P 87 #[.int .i64 id, .int .i64 n, .int .i64 seq, .int .i64 ep, .slice A N cap, (.pointer (some ⟨pp, 0, none⟩))] := by rw [hN]; exact kC
  obtain ⟨n2, hn2⟩ : ∃ n2, n2 = l2.length := ⟨_, rfl⟩
  rw [← hn2]
  obtain ⟨h0, hh0⟩ : ∃ h0, h0 = w.heap.size := ⟨_, rfl⟩
  obtain ⟨W0, hW0⟩ : ∃ W0, W0 = w.alloc (.cells #[.int .i64 e2, .slice A2 n2 cap2] 59) := ⟨_, rfl⟩
  have kq : Blk W0 h0 59 #[.int .i64 e2, .slice A2 n2 cap2] := by rw [hW0, hh0]; exact Blk.new _ _ _
  have hx0 : Ext w W0 := by rw [hW0]; exact Ext.alloc _ _
  have kC0 := kC'.stay hx0
  have fc0 : ∀ V, Ext W0 V → V.cell? ⟨P, 0, none⟩ = some (.int .i64 id) := fun V h => (kC0.stay h).cell 0
  have fc1 : ∀ V, Ext W0 V → V.cell? ⟨P, 1, none⟩ = some (.int .i64 n) := fun V h => (kC0.stay h).cell 1
  have fc2 : ∀ V, Ext W0 V → V.cell? ⟨P, 2, none⟩ = some (.int .i64 seq) := fun V h => (kC0.stay h).cell 2
  have fc3 : ∀ V, Ext W0 V → V.cell? ⟨P, 3, none⟩ = some (.int .i64 ep) := fun V h => (kC0.stay h).cell 3
  have fc4 : ∀ V, Ext W0 V → V.cell? ⟨P, 4, none⟩ = some (.slice A N cap) := fun V h => (kC0.stay h).cell 4
  have fc5 : ∀ V, Ext W0 V → V.cell? ⟨P, 5, none⟩ = some ((.pointer (some ⟨pp, 0, none⟩))) := fun V h => (kC0.stay h).cell 5
  have fq0 : ∀ V, Ext W0 V → V.cell? ⟨h0, 0, none⟩ = some (.int .i64 e2) := fun V h => (kq.stay h).cell 0
  have fq1 : ∀ V, Ext W0 V → V.cell? ⟨h0, 1, none⟩ = some (.slice A2 n2 cap2) := fun V h => (kq.stay h).cell 1
  have CI : Hid (∀ V, Ext W0 V → Calls Try.prog 47 #[.pointer (some ⟨P, 0, none⟩), .int .i64 x] V fun e w' => e = .returned (.bool true) ∧ Ext V w') := fun V hV => is_y base P id n seq ep ns c s k i m d ak tr x V (HCL.out.stay (Ext.trans hx0 hV)) hx
  have CM : Hid (∀ V, Ext W0 V → Calls Try.prog 48 #[.agg #[.int .i64 e2, .slice A2 n2 cap2]] V fun e w' => e = .returned (.bool true) ∧ Ext V w') := fun V hV => by rw [← hm, hn2]; exact mayChain_any e2 A2 cap2 l2 V (by omega) hc2 (hs2.stay (Ext.trans hx0 hV))
  have CC : Hid (∀ V, Ext W0 V → Calls Try.prog 38 #[.slice A2 n2 cap2] V fun e w' => ∃ A3 c3, e = .returned (.slice A3 n2 c3) ∧ KnAt w' A3 l2 ∧ Ext V w') := fun V hV => by
    rw [hn2]
    refine (cloneI_any A2 cap2 l2 V (by omega) (hs2.stay (Ext.trans hx0 hV))).mono ?_
    rintro e w' ⟨v, rfl, h2, h3⟩
    obtain ⟨A3, c3, rfl⟩ := own_shape h2
    exact ⟨A3, c3, rfl, known_own h2, h3⟩
  have HNEh : Hid (P ≠ h0) := by have := kC'.lt; show P ≠ h0; omega
  have HPP : Hid (P ≠ pp) := Blk.apart kC kP (by decide)
  have HKP := Lib.hid kP
  have HPB : Hid (base ≤ pp) := hpp
  have HH0 : Hid (h0 = w.heap.size) := hh0
  have HW0 := Lib.hid (And.intro hW0 hh0)
  have HX0 := Lib.hid hx0
  have HKC := Lib.hid kC'
  have HKC0 := Lib.hid kC0
  have HKQ := Lib.hid kq
  have HN := Lib.hid hN
  have HN2 := Lib.hid hn2
  have HBP : Hid (base ≤ P) := hbP
  clear kC kC' kC0 kq hk hN HCL hbP hn2 hl2 hc2 hs2 hW0 hx0 hh0 kP kP' hx hm
  have E0 : Hid (Ext W0 W0) := Ext.refl _
  go_enter Try.func28, Try.ntmps28
  go_wp2_with fail
  rw [← HW0.out.1, ← HW0.out.2]
  refine ext_begin (by kernel_rfl) ?_
  have E0d := Lib.hid (Ext.drewR E0.out)
  refine ext_take (i := 0) (v := ?_) rfl (by kernel_rfl) (by kernel_rfl) (by kernel_rfl) (fun _ _ _ h => h) (by rfl) ?_ ?_
  rotate_left
  · intro W hW; have hW0 := Ext.trans E0d.out hW; clear hW; go_simp <;> with_reducible rfl
  try simp only [Act.put, List.setIfInBounds_toArray, List.set_cons_zero, List.set_cons_succ]
  refine ext_take (i := 1) (v := ?_) rfl (by kernel_rfl) (by kernel_rfl) (by kernel_rfl) (fun _ _ _ h => h) (by rfl) ?_ ?_
  rotate_left
  · intro W hW; have hW0 := Ext.trans E0d.out hW; clear hW; go_simp <;> with_reducible rfl
  try simp only [Act.put, List.setIfInBounds_toArray, List.set_cons_zero, List.set_cons_succ]
  refine ext_call (i := 2) rfl (by kernel_rfl) (by rfl) (fun K' hK => ?_)
  go_simp
  (go_at_call 47; (with_reducible refine (CI.out _ E0d.out).mono ?_); rintro e w3 ⟨rfl, hx⟩; refine hK _ _ hx ?_; clear hK)
  have Ew3 := Lib.hid (Ext.trans E0d.out hx)
  clear hx
  try simp only [Act.put, List.setIfInBounds_toArray, List.set_cons_zero, List.set_cons_succ]
  refine ext_take (i := 3) (v := ?_) rfl (by kernel_rfl) (by kernel_rfl) (by kernel_rfl) (fun _ _ _ h => h) (by rfl) ?_ ?_
  rotate_left
  · intro W hW; have hW0 := Ext.trans Ew3.out hW; clear hW; go_simp <;> with_reducible rfl
  try simp only [Act.put, List.setIfInBounds_toArray, List.set_cons_zero, List.set_cons_succ]
  refine ext_take (i := 4) (v := ?_) rfl (by kernel_rfl) (by kernel_rfl) (by kernel_rfl) (fun _ _ _ h => h) (by rfl) ?_ ?_
  rotate_left
  · intro W hW; have hW0 := Ext.trans Ew3.out hW; clear hW; go_simp <;> with_reducible rfl
  try simp only [Act.put, List.setIfInBounds_toArray, List.set_cons_zero, List.set_cons_succ]
  refine ext_call (i := 5) rfl (by kernel_rfl) (by rfl) (fun K' hK => ?_)
  go_simp
  (go_at_call 48; (with_reducible refine (CM.out _ Ew3.out).mono ?_); rintro e w4 ⟨rfl, hx⟩; refine hK _ _ hx ?_; clear hK)
  have Ew4 := Lib.hid (Ext.trans Ew3.out hx)
  clear hx
  try simp only [Act.put, List.setIfInBounds_toArray, List.set_cons_zero, List.set_cons_succ]
  refine ext_take (i := 6) (v := ?_) rfl (by kernel_rfl) (by kernel_rfl) (by kernel_rfl) (fun _ _ _ h => h) (by rfl) ?_ ?_
  rotate_left
  · intro W hW; have hW0 := Ext.trans Ew4.out hW; clear hW; go_simp <;> with_reducible rfl
  try simp only [Act.put, List.setIfInBounds_toArray, List.set_cons_zero, List.set_cons_succ]
  refine ext_take (i := 7) (v := ?_) rfl (by kernel_rfl) (by kernel_rfl) (by kernel_rfl) (fun _ _ _ h => h) (by rfl) ?_ ?_
  rotate_left
  · intro W hW; have hW0 := Ext.trans Ew4.out hW; clear hW; go_simp <;> with_reducible rfl
  try simp only [Act.put, List.setIfInBounds_toArray, List.set_cons_zero, List.set_cons_succ]
  refine ext_take (i := 8) (v := ?_) rfl (by kernel_rfl) (by kernel_rfl) (by kernel_rfl) (fun _ _ _ h => h) (by rfl) ?_ ?_
  rotate_left
  · intro W hW; have hW0 := Ext.trans Ew4.out hW; clear hW; go_simp <;> with_reducible rfl
  try simp only [Act.put, List.setIfInBounds_toArray, List.set_cons_zero, List.set_cons_succ]
  refine ext_take (i := 9) (v := ?_) rfl (by kernel_rfl) (by kernel_rfl) (by kernel_rfl) (fun _ _ _ h => h) (by rfl) ?_ ?_
  rotate_left
  · intro W hW; have hW0 := Ext.trans Ew4.out hW; clear hW; go_simp <;> with_reducible rfl
  try simp only [Act.put, List.setIfInBounds_toArray, List.set_cons_zero, List.set_cons_succ]
  refine ext_take (i := 10) (v := ?_) rfl (by kernel_rfl) (by kernel_rfl) (by kernel_rfl) (fun _ _ _ h => h) (by rfl) ?_ ?_
  rotate_left
  · intro W hW; have hW0 := Ext.trans Ew4.out hW; clear hW; go_simp <;> with_reducible rfl
  try simp only [Act.put, List.setIfInBounds_toArray, List.set_cons_zero, List.set_cons_succ]
  refine ext_take (i := 11) (v := ?_) rfl (by kernel_rfl) (by kernel_rfl) (by kernel_rfl) (fun _ _ _ h => h) (by rfl) ?_ ?_
  rotate_left
  · intro W hW; have hW0 := Ext.trans Ew4.out hW; clear hW; go_simp <;> with_reducible rfl
  try simp only [Act.put, List.setIfInBounds_toArray, List.set_cons_zero, List.set_cons_succ]
  refine ext_take (i := 12) (v := ?_) rfl (by kernel_rfl) (by kernel_rfl) (by kernel_rfl) (fun _ _ _ h => h) (by rfl) ?_ ?_
  rotate_left
  · intro W hW; have hW0 := Ext.trans Ew4.out hW; clear hW; go_simp <;> with_reducible rfl
  try simp only [Act.put, List.setIfInBounds_toArray, List.set_cons_zero, List.set_cons_succ]
  refine ext_take (i := 13) (v := ?_) rfl (by kernel_rfl) (by kernel_rfl) (by kernel_rfl) (fun _ _ _ h => h) (by rfl) ?_ ?_
  rotate_left
  · intro W hW; have hW0 := Ext.trans Ew4.out hW; clear hW; go_simp <;> with_reducible rfl
  try simp only [Act.put, List.setIfInBounds_toArray, List.set_cons_zero, List.set_cons_succ]
  refine ext_take (i := 14) (v := ?_) rfl (by kernel_rfl) (by kernel_rfl) (by kernel_rfl) (fun _ _ _ h => h) (by rfl) ?_ ?_
  rotate_left
  · intro W hW; have hW0 := Ext.trans Ew4.out hW; clear hW; go_simp <;> with_reducible rfl
  try simp only [Act.put, List.setIfInBounds_toArray, List.set_cons_zero, List.set_cons_succ]
  refine ext_take (i := 15) (v := .bool true) rfl (by kernel_rfl) (by kernel_rfl) (by kernel_rfl) (fun _ _ _ h => h) (by rfl) ?_ ?_
  · intro W hW; have hW0 := Ext.trans Ew4.out hW; clear hW; go_simp; all_goals (first | done | omega | (simp; omega))
  try simp only [Act.put, List.setIfInBounds_toArray, List.set_cons_zero, List.set_cons_succ]
  refine ext_take (i := 16) (v := ?_) rfl (by kernel_rfl) (by kernel_rfl) (by kernel_rfl) (fun _ _ _ h => h) (by rfl) ?_ ?_
  rotate_left
  · intro W hW; have hW0 := Ext.trans Ew4.out hW; clear hW; go_simp <;> with_reducible rfl
  try simp only [Act.put, List.setIfInBounds_toArray, List.set_cons_zero, List.set_cons_succ]
  refine wpAnyH_done (by kernel_rfl) ?_ _
  have EX := Lib.hid Ew4.out
  clear Ew4 E0d E0
  have ex := EX.out
  have qz0 := fq0 _ ex
  have qz1 := fq1 _ ex
  go_wp2_with (go_at_call 38; (with_reducible refine (CC.out _ ex).mono ?_); rintro e w5 ⟨A3, c3, rfl, ho, hx⟩; have HO := Lib.hid ho; have X5 : Hid (Ext W0 w5) := Ext.trans ex hx; have kq5 := HKQ.out.stay X5.out; have qf := kq5.frozen 1; have q50 := kq5.cell 0; have q51 := kq5.cell 1; have kq6 := kq5.set 1 (.slice A3 n2 c3); have q60 := kq6.cell 0; have q61 := kq6.cell 1; have kc5 := HKC0.out.stay X5.out; have kc6 := kc5.far (p := ⟨h0, 1, none⟩) HNEh.out (.slice A3 n2 c3); have g0 := kc6.cell 0; have g1 := kc6.cell 1; have g2 := kc6.cell 2; have g3 := kc6.cell 3; have g4 := kc6.cell 4; have g5 := kc6.cell 5; simp at g0 g1 g2 g3 g4 g5 q50 q51 q60 q61; have gf3 := kc6.frozen 3; have kc7 := kc6.set 3 (.int .i64 e2); have gf4 := kc7.frozen 4; have gg4 := kc7.cell 4; simp at gg4; have HC5 := Lib.hid kc5; have HC6 := Lib.hid kc6; have HC7 := Lib.hid kc7; clear ho hx kq5 kq6 kc5 kc6 kc7)
  obtain ⟨W6, hW6⟩ : ∃ W6, W6 = w5.setCell ⟨h0, 1, none⟩ (.slice A3 n2 c3) := ⟨_, rfl⟩
  have hx6 : Ext w W6 := by
    rw [hW6]
    exact Below.setCell (Ext.trans HX0.out X5.out) (by rw [HH0.out]; exact Nat.le_refl _) _
  have hc6 : Blk W6 P 87 #[.int .i64 id, .int .i64 n, .int .i64 seq, .int .i64 ep, .slice A N cap, (.pointer (some ⟨pp, 0, none⟩))] := by rw [hW6]; exact HC6.out
  have hk6 : KnAt W6 A3 l2 := by
    rw [hW6]
    exact HO.out.of fun g cs hb => hb.far (p := ⟨h0, 1, none⟩) (Blk.apart hb (HKQ.out.stay X5.out) (by decide)) _
  obtain ⟨W9, hW9⟩ : ∃ W9, W9 = (W6.setCell ⟨P, 3, none⟩ (.int .i64 e2)).setCell ⟨P, 4, none⟩ (.slice A3 n2 c3) := ⟨_, rfl⟩
  have hk9 : Kt base W6 W9 := by rw [hW9]; exact (Kt.set hc6 (.inl rfl) HBP.out 3 _).trans (Kt.set (hc6.set 3 _) (.inl rfl) HBP.out 4 _)
  have hc9 : Blk W9 P 87 #[.int .i64 id, .int .i64 n, .int .i64 seq, .int .i64 e2, .slice A3 n2 c3, (.pointer (some ⟨pp, 0, none⟩))] := by rw [hW9]; exact (hc6.set 3 _).set 4 _
  have hp9 : Blk W9 pp 89 #[.int .i64 c, .int .i64 s, .int .i64 k, .int .i64 i, .int .i64 m, .string d, .int .i64 ak, .int .i64 tr] := by rw [hW9]; exact ((HKP.out.stay hx6).far (p := ⟨P, 3, none⟩) (Ne.symm HPP.out) _).far (p := ⟨P, 4, none⟩) (Ne.symm HPP.out) _
  rw [← hW6, ← hW9]
  have HF : Hid (D (.returned (.tuple #[])) W9) := hD.out _ _ ⟨rfl, ⟨HBP.out, A3, c3, _, by rw [← HN2.out]; exact hc9, hk6.kt hk9, pp, HPB.out, rfl, hp9⟩, (Kt.ext hx6 HB.out).trans hk9⟩
  clear hk9 hc9 hp9 hW9 hc6 hk6 hx6 hW6
  all_goals try go_end0
  exact HF.out

end Go.Proofs.Ytnionfddejaalaa
