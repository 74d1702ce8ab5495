/-
  A request's bytes, the document's; whether a request writes, both.
-/
import Derived.Test.YtdbnaflaobncgaaItemPut
import Derived.Test.YtdbnaflaobncgaaRefNum
import Derived.Test.YtdbnaflaobncgaaHeld
import Derived.Laws.Concat
namespace Go.Proofs.Ytdbnaflaobncgaa
set_option linter.unusedVariables false
set_option linter.unusedSimpArgs false
open Go.RowKit Go.ChangeShapes Go.WideShapes

theorem str_app (a b : List UInt8) : str (a ++ b) = str a ++ str b := by
  apply ByteArray.ext
  rw [ByteArray.data_append]
  simp [str]

set_option maxRecDepth 8000 in
set_option maxHeartbeats 16000000 in
theorem refPutReq_any (q : Rq) (w : World) (hm : q.may = true) :
    Calls Try.prog 35 #[q.val] w fun e w' => e = .returned (.string (str (putB q))) ∧ Ext w w' := by
  refine hide_post fun D hD => ?_
  have hb := Rq.may_le hm
  obtain ⟨c, s, k, i, m, d⟩ := q
  simp only at hb
  obtain ⟨W0, hW0⟩ : ∃ W0, W0 = w.alloc (.cells #[.int .i64 c, .int .i64 s, .int .i64 k, .int .i64 i, .int .i64 m, .string d] 30) := ⟨_, rfl⟩
  have hx0 : Ext w W0 := by rw [hW0]; exact Ext.alloc _ _
  have kB : Blk W0 w.heap.size 30 #[.int .i64 c, .int .i64 s, .int .i64 k, .int .i64 i, .int .i64 m, .string d] := by rw [hW0]; exact Blk.new _ _ _
  have fz0 : ∀ V, Ext W0 V → V.cell? ⟨w.heap.size, 0, none⟩ = some (.int .i64 c) := fun V h => (kB.stay h).cell 0
  have fz1 : ∀ V, Ext W0 V → V.cell? ⟨w.heap.size, 1, none⟩ = some (.int .i64 s) := fun V h => (kB.stay h).cell 1
  have fz2 : ∀ V, Ext W0 V → V.cell? ⟨w.heap.size, 2, none⟩ = some (.int .i64 k) := fun V h => (kB.stay h).cell 2
  have fz3 : ∀ V, Ext W0 V → V.cell? ⟨w.heap.size, 3, none⟩ = some (.int .i64 i) := fun V h => (kB.stay h).cell 3
  have fz4 : ∀ V, Ext W0 V → V.cell? ⟨w.heap.size, 4, none⟩ = some (.int .i64 m) := fun V h => (kB.stay h).cell 4
  have fz5 : ∀ V, Ext W0 V → V.cell? ⟨w.heap.size, 5, none⟩ = some (.string d) := fun V h => (kB.stay h).cell 5
  obtain ⟨t1, ht1⟩ : ∃ t, t = str (numB c) := ⟨_, rfl⟩
  have z1 : t1.size ≤ 10 := by rw [ht1, str_size]; exact numF_len 10 c
  obtain ⟨t2, ht2⟩ : ∃ t, t = str (numB s) := ⟨_, rfl⟩
  have z2 : t2.size ≤ 10 := by rw [ht2, str_size]; exact numF_len 10 s
  obtain ⟨t3, ht3⟩ : ∃ t, t = str (numB k) := ⟨_, rfl⟩
  have z3 : t3.size ≤ 10 := by rw [ht3, str_size]; exact numF_len 10 k
  obtain ⟨t4, ht4⟩ : ∃ t, t = str (numB i) := ⟨_, rfl⟩
  have z4 : t4.size ≤ 10 := by rw [ht4, str_size]; exact numF_len 10 i
  obtain ⟨t5, ht5⟩ : ∃ t, t = str (numB m) := ⟨_, rfl⟩
  have z5 : t5.size ≤ 10 := by rw [ht5, str_size]; exact numF_len 10 m
  obtain ⟨t6, ht6⟩ : ∃ t, t = str (textB d) := ⟨_, rfl⟩
  have z6 : t6.size ≤ 100 := by
    rw [ht6, str_size]
    unfold textB
    rw [List.length_append]
    have h1 : (numB d.size).length ≤ 10 := numF_len 10 d.size
    have h2 : d.data.toList.length = d.size := by rw [Array.length_toList]; rfl
    omega
  have C1 : Hid (∀ V, Ext W0 V → Calls Try.prog 54 #[.int .u64 c] V fun e w' => e = .returned (.string t1) ∧ Ext V w') := fun V _ => by rw [ht1]; exact refNum_any c V (by omega)
  have C2 : Hid (∀ V, Ext W0 V → Calls Try.prog 54 #[.int .u64 s] V fun e w' => e = .returned (.string t2) ∧ Ext V w') := fun V _ => by rw [ht2]; exact refNum_any s V (by omega)
  have C3 : Hid (∀ V, Ext W0 V → Calls Try.prog 54 #[.int .u64 k] V fun e w' => e = .returned (.string t3) ∧ Ext V w') := fun V _ => by rw [ht3]; exact refNum_any k V (by omega)
  have C4 : Hid (∀ V, Ext W0 V → Calls Try.prog 54 #[.int .u64 i] V fun e w' => e = .returned (.string t4) ∧ Ext V w') := fun V _ => by rw [ht4]; exact refNum_any i V (by omega)
  have C5 : Hid (∀ V, Ext W0 V → Calls Try.prog 54 #[.int .u64 m] V fun e w' => e = .returned (.string t5) ∧ Ext V w') := fun V _ => by rw [ht5]; exact refNum_any m V (by omega)
  have C6 : Hid (∀ V, Ext W0 V → Calls Try.prog 55 #[.string d] V fun e w' => e = .returned (.string t6) ∧ Ext V w') := fun V _ => by rw [ht6]; exact refText_any d V (by omega)
  obtain ⟨u2, hu2⟩ : ∃ u, u = t1 ++ t2 := ⟨_, rfl⟩
  have y2 : u2.size ≤ 20 := by rw [hu2, ByteArray.size_append]; omega
  obtain ⟨u3, hu3⟩ : ∃ u, u = u2 ++ t3 := ⟨_, rfl⟩
  have y3 : u3.size ≤ 30 := by rw [hu3, ByteArray.size_append]; omega
  obtain ⟨u4, hu4⟩ : ∃ u, u = u3 ++ t4 := ⟨_, rfl⟩
  have y4 : u4.size ≤ 40 := by rw [hu4, ByteArray.size_append]; omega
  obtain ⟨u5, hu5⟩ : ∃ u, u = u4 ++ t5 := ⟨_, rfl⟩
  have y5 : u5.size ≤ 50 := by rw [hu5, ByteArray.size_append]; omega
  obtain ⟨u6, hu6⟩ : ∃ u, u = u5 ++ t6 := ⟨_, rfl⟩
  have y6 : u6.size ≤ 200 := by rw [hu6, ByteArray.size_append]; omega
  have HP : str (putB ⟨c, s, k, i, m, d⟩) = u6 := by
    have h := putB_eq ⟨c, s, k, i, m, d⟩ []
    simp only [List.append_nil] at h
    rw [h, hu6, hu5, hu4, hu3, hu2, ht1, ht2, ht3, ht4, ht5, ht6]
    simp only [← str_app, List.append_assoc]
  rw [HP] at hD
  have q2 : t1 ++ t2 = u2 := hu2.symm
  have q3 : u2 ++ t3 = u3 := hu3.symm
  have q4 : u3 ++ t4 = u4 := hu4.symm
  have q5 : u4 ++ t5 = u5 := hu5.symm
  have q6 : u5 ++ t6 = u6 := hu6.symm
  have hq1 : IntKind.u64.wrap (c : Int) = (c : Int) := wrap_u64I c (by omega)
  have hq2 : IntKind.u64.wrap (s : Int) = (s : Int) := wrap_u64I s (by omega)
  have hq3 : IntKind.u64.wrap (k : Int) = (k : Int) := wrap_u64I k (by omega)
  have hq4 : IntKind.u64.wrap (i : Int) = (i : Int) := wrap_u64I i (by omega)
  have hq5 : IntKind.u64.wrap (m : Int) = (m : Int) := wrap_u64I m (by omega)
  have E0 : Hid (Ext W0 W0) := Ext.refl _
  have HX0 := Lib.hid hx0
  have HW0 := Lib.hid hW0
  clear hx0 hW0 kB HP ht1 ht2 ht3 ht4 ht5 ht6 hu2 hu3 hu4 hu5 hu6 hm
  unfold Rq.val
  go_enter Try.func35, Try.ntmps35
  go_wp2
  rw [← HW0.out]
  refine ext_begin (by kernel_rfl) ?_
  have E0d := Lib.hid (Ext.drewR E0.out)
  refine ext_take (i := 0) (v := ?_) rfl (by kernel_rfl) (by kernel_rfl) (by kernel_rfl) (fun _ _ _ h => h) (by rfl) ?_ ?_
  rotate_left
  · intro W hW; have hW0 := Ext.trans E0d.out hW; clear hW; go_simp <;> with_reducible rfl
  try simp only [Act.put, List.setIfInBounds_toArray, List.set_cons_zero, List.set_cons_succ]
  refine ext_take (i := 1) (v := ?_) rfl (by kernel_rfl) (by kernel_rfl) (by kernel_rfl) (fun _ _ _ h => h) (by rfl) ?_ ?_
  rotate_left
  · intro W hW; have hW0 := Ext.trans E0d.out hW; clear hW; go_simp <;> with_reducible rfl
  try simp only [Act.put, List.setIfInBounds_toArray, List.set_cons_zero, List.set_cons_succ]
  refine ext_take (i := 2) (v := ?_) rfl (by kernel_rfl) (by kernel_rfl) (by kernel_rfl) (fun _ _ _ h => h) (by rfl) ?_ ?_
  rotate_left
  · intro W hW; have hW0 := Ext.trans E0d.out hW; clear hW; go_simp <;> with_reducible rfl
  try simp only [Act.put, List.setIfInBounds_toArray, List.set_cons_zero, List.set_cons_succ]
  refine ext_take (i := 4) (v := ?_) rfl (by kernel_rfl) (by kernel_rfl) (by kernel_rfl) (fun _ _ _ h => h) (by rfl) ?_ ?_
  rotate_left
  · intro W hW; have hW0 := Ext.trans E0d.out hW; clear hW; go_simp <;> with_reducible rfl
  try simp only [Act.put, List.setIfInBounds_toArray, List.set_cons_zero, List.set_cons_succ]
  refine ext_take (i := 5) (v := ?_) rfl (by kernel_rfl) (by kernel_rfl) (by kernel_rfl) (fun _ _ _ h => h) (by rfl) ?_ ?_
  rotate_left
  · intro W hW; have hW0 := Ext.trans E0d.out hW; clear hW; go_simp <;> with_reducible rfl
  try simp only [Act.put, List.setIfInBounds_toArray, List.set_cons_zero, List.set_cons_succ]
  refine ext_take (i := 6) (v := ?_) rfl (by kernel_rfl) (by kernel_rfl) (by kernel_rfl) (fun _ _ _ h => h) (by rfl) ?_ ?_
  rotate_left
  · intro W hW; have hW0 := Ext.trans E0d.out hW; clear hW; go_simp <;> with_reducible rfl
  try simp only [Act.put, List.setIfInBounds_toArray, List.set_cons_zero, List.set_cons_succ]
  refine ext_take (i := 9) (v := ?_) rfl (by kernel_rfl) (by kernel_rfl) (by kernel_rfl) (fun _ _ _ h => h) (by rfl) ?_ ?_
  rotate_left
  · intro W hW; have hW0 := Ext.trans E0d.out hW; clear hW; go_simp <;> with_reducible rfl
  try simp only [Act.put, List.setIfInBounds_toArray, List.set_cons_zero, List.set_cons_succ]
  refine ext_take (i := 10) (v := ?_) rfl (by kernel_rfl) (by kernel_rfl) (by kernel_rfl) (fun _ _ _ h => h) (by rfl) ?_ ?_
  rotate_left
  · intro W hW; have hW0 := Ext.trans E0d.out hW; clear hW; go_simp <;> with_reducible rfl
  try simp only [Act.put, List.setIfInBounds_toArray, List.set_cons_zero, List.set_cons_succ]
  refine ext_take (i := 11) (v := ?_) rfl (by kernel_rfl) (by kernel_rfl) (by kernel_rfl) (fun _ _ _ h => h) (by rfl) ?_ ?_
  rotate_left
  · intro W hW; have hW0 := Ext.trans E0d.out hW; clear hW; go_simp <;> with_reducible rfl
  try simp only [Act.put, List.setIfInBounds_toArray, List.set_cons_zero, List.set_cons_succ]
  refine ext_take (i := 14) (v := ?_) rfl (by kernel_rfl) (by kernel_rfl) (by kernel_rfl) (fun _ _ _ h => h) (by rfl) ?_ ?_
  rotate_left
  · intro W hW; have hW0 := Ext.trans E0d.out hW; clear hW; go_simp <;> with_reducible rfl
  try simp only [Act.put, List.setIfInBounds_toArray, List.set_cons_zero, List.set_cons_succ]
  refine ext_take (i := 15) (v := ?_) rfl (by kernel_rfl) (by kernel_rfl) (by kernel_rfl) (fun _ _ _ h => h) (by rfl) ?_ ?_
  rotate_left
  · intro W hW; have hW0 := Ext.trans E0d.out hW; clear hW; go_simp <;> with_reducible rfl
  try simp only [Act.put, List.setIfInBounds_toArray, List.set_cons_zero, List.set_cons_succ]
  refine ext_take (i := 16) (v := ?_) rfl (by kernel_rfl) (by kernel_rfl) (by kernel_rfl) (fun _ _ _ h => h) (by rfl) ?_ ?_
  rotate_left
  · intro W hW; have hW0 := Ext.trans E0d.out hW; clear hW; go_simp <;> with_reducible rfl
  try simp only [Act.put, List.setIfInBounds_toArray, List.set_cons_zero, List.set_cons_succ]
  refine ext_take (i := 19) (v := ?_) rfl (by kernel_rfl) (by kernel_rfl) (by kernel_rfl) (fun _ _ _ h => h) (by rfl) ?_ ?_
  rotate_left
  · intro W hW; have hW0 := Ext.trans E0d.out hW; clear hW; go_simp <;> with_reducible rfl
  try simp only [Act.put, List.setIfInBounds_toArray, List.set_cons_zero, List.set_cons_succ]
  refine ext_take (i := 20) (v := ?_) rfl (by kernel_rfl) (by kernel_rfl) (by kernel_rfl) (fun _ _ _ h => h) (by rfl) ?_ ?_
  rotate_left
  · intro W hW; have hW0 := Ext.trans E0d.out hW; clear hW; go_simp <;> with_reducible rfl
  try simp only [Act.put, List.setIfInBounds_toArray, List.set_cons_zero, List.set_cons_succ]
  refine ext_take (i := 21) (v := ?_) rfl (by kernel_rfl) (by kernel_rfl) (by kernel_rfl) (fun _ _ _ h => h) (by rfl) ?_ ?_
  rotate_left
  · intro W hW; have hW0 := Ext.trans E0d.out hW; clear hW; go_simp <;> with_reducible rfl
  try simp only [Act.put, List.setIfInBounds_toArray, List.set_cons_zero, List.set_cons_succ]
  refine ext_take (i := 24) (v := ?_) rfl (by kernel_rfl) (by kernel_rfl) (by kernel_rfl) (fun _ _ _ h => h) (by rfl) ?_ ?_
  rotate_left
  · intro W hW; have hW0 := Ext.trans E0d.out hW; clear hW; go_simp <;> with_reducible rfl
  try simp only [Act.put, List.setIfInBounds_toArray, List.set_cons_zero, List.set_cons_succ]
  refine ext_take (i := 25) (v := ?_) rfl (by kernel_rfl) (by kernel_rfl) (by kernel_rfl) (fun _ _ _ h => h) (by rfl) ?_ ?_
  rotate_left
  · intro W hW; have hW0 := Ext.trans E0d.out hW; clear hW; go_simp <;> with_reducible rfl
  try simp only [Act.put, List.setIfInBounds_toArray, List.set_cons_zero, List.set_cons_succ]
  refine ext_call (i := 3) rfl (by kernel_rfl) (by rfl) (fun K' hK => ?_)
  go_simp
  (go_at_call 54; (with_reducible refine (C1.out _ E0d.out).mono ?_); rintro e w1 ⟨rfl, hx⟩; refine hK _ _ hx ?_; clear hK)
  have Ew1 := Lib.hid (Ext.trans E0d.out hx)
  clear hx
  try simp only [Act.put, List.setIfInBounds_toArray, List.set_cons_zero, List.set_cons_succ]
  refine ext_call (i := 7) rfl (by kernel_rfl) (by rfl) (fun K' hK => ?_)
  go_simp
  (go_at_call 54; (with_reducible refine (C2.out _ Ew1.out).mono ?_); rintro e w2 ⟨rfl, hx⟩; refine hK _ _ hx ?_; clear hK)
  have Ew2 := Lib.hid (Ext.trans Ew1.out hx)
  clear hx
  try simp only [Act.put, List.setIfInBounds_toArray, List.set_cons_zero, List.set_cons_succ]
  refine ext_take (i := 8) (v := .string u2) rfl (by kernel_rfl) (by kernel_rfl) (by kernel_rfl) (fun _ _ _ h => h) (by rfl) ?_ ?_
  · intro W hW; have hW0 := Ext.trans Ew2.out hW; clear hW; go_simp; all_goals (first | done | omega)
  try simp only [Act.put, List.setIfInBounds_toArray, List.set_cons_zero, List.set_cons_succ]
  refine ext_call (i := 12) rfl (by kernel_rfl) (by rfl) (fun K' hK => ?_)
  go_simp
  (go_at_call 54; (with_reducible refine (C3.out _ Ew2.out).mono ?_); rintro e w3 ⟨rfl, hx⟩; refine hK _ _ hx ?_; clear hK)
  have Ew3 := Lib.hid (Ext.trans Ew2.out hx)
  clear hx
  try simp only [Act.put, List.setIfInBounds_toArray, List.set_cons_zero, List.set_cons_succ]
  refine ext_take (i := 13) (v := .string u3) rfl (by kernel_rfl) (by kernel_rfl) (by kernel_rfl) (fun _ _ _ h => h) (by rfl) ?_ ?_
  · intro W hW; have hW0 := Ext.trans Ew3.out hW; clear hW; go_simp; all_goals (first | done | omega)
  try simp only [Act.put, List.setIfInBounds_toArray, List.set_cons_zero, List.set_cons_succ]
  refine ext_call (i := 17) rfl (by kernel_rfl) (by rfl) (fun K' hK => ?_)
  go_simp
  (go_at_call 54; (with_reducible refine (C4.out _ Ew3.out).mono ?_); rintro e w4 ⟨rfl, hx⟩; refine hK _ _ hx ?_; clear hK)
  have Ew4 := Lib.hid (Ext.trans Ew3.out hx)
  clear hx
  try simp only [Act.put, List.setIfInBounds_toArray, List.set_cons_zero, List.set_cons_succ]
  refine ext_take (i := 18) (v := .string u4) rfl (by kernel_rfl) (by kernel_rfl) (by kernel_rfl) (fun _ _ _ h => h) (by rfl) ?_ ?_
  · intro W hW; have hW0 := Ext.trans Ew4.out hW; clear hW; go_simp; all_goals (first | done | omega)
  try simp only [Act.put, List.setIfInBounds_toArray, List.set_cons_zero, List.set_cons_succ]
  refine ext_call (i := 22) rfl (by kernel_rfl) (by rfl) (fun K' hK => ?_)
  go_simp
  (go_at_call 54; (with_reducible refine (C5.out _ Ew4.out).mono ?_); rintro e w5 ⟨rfl, hx⟩; refine hK _ _ hx ?_; clear hK)
  have Ew5 := Lib.hid (Ext.trans Ew4.out hx)
  clear hx
  try simp only [Act.put, List.setIfInBounds_toArray, List.set_cons_zero, List.set_cons_succ]
  refine ext_take (i := 23) (v := .string u5) rfl (by kernel_rfl) (by kernel_rfl) (by kernel_rfl) (fun _ _ _ h => h) (by rfl) ?_ ?_
  · intro W hW; have hW0 := Ext.trans Ew5.out hW; clear hW; go_simp; all_goals (first | done | omega)
  try simp only [Act.put, List.setIfInBounds_toArray, List.set_cons_zero, List.set_cons_succ]
  refine ext_call (i := 26) rfl (by kernel_rfl) (by rfl) (fun K' hK => ?_)
  go_simp
  (go_at_call 55; (with_reducible refine (C6.out _ Ew5.out).mono ?_); rintro e w6 ⟨rfl, hx⟩; refine hK _ _ hx ?_; clear hK)
  have Ew6 := Lib.hid (Ext.trans Ew5.out hx)
  clear hx
  try simp only [Act.put, List.setIfInBounds_toArray, List.set_cons_zero, List.set_cons_succ]
  refine ext_take (i := 27) (v := .string u6) rfl (by kernel_rfl) (by kernel_rfl) (by kernel_rfl) (fun _ _ _ h => h) (by rfl) ?_ ?_
  · intro W hW; have hW0 := Ext.trans Ew6.out hW; clear hW; go_simp; all_goals (first | done | omega)
  try simp only [Act.put, List.setIfInBounds_toArray, List.set_cons_zero, List.set_cons_succ]
  refine ext_take (i := 28) (v := ?_) rfl (by kernel_rfl) (by kernel_rfl) (by kernel_rfl) (fun _ _ _ h => h) (by rfl) ?_ ?_
  rotate_left
  · intro W hW; have hW0 := Ext.trans Ew6.out hW; clear hW; go_simp <;> with_reducible rfl
  try simp only [Act.put, List.setIfInBounds_toArray, List.set_cons_zero, List.set_cons_succ]
  refine wpAnyH_done (by kernel_rfl) ?_ _
  clear fz0 fz1 fz2 fz3 fz4 fz5
  go_wp2
  try go_ret
  exact hD.out _ _ ⟨rfl, Ext.trans HX0.out Ew6.out⟩

set_option maxHeartbeats 4000000 in
theorem writes_any (c s k i m : Int) (d : ByteArray) (w : World) :
    Calls Try.prog 33 #[.agg #[.int .i64 c, .int .i64 s, .int .i64 k, .int .i64 i, .int .i64 m, .string d]] w fun e w' => e = .returned (.bool (decide (k = 1 ∨ k = 2 ∨ k = 3))) ∧ Ext w w' := by
  by_cases h1 : k = 1
  · subst h1
    go_enter Try.func33, Try.ntmps33
    go_wp2
    go_ret
    exact ⟨by simp, Ext.alloc _ _⟩
  by_cases h2 : k = 2
  · subst h2
    go_enter Try.func33, Try.ntmps33
    go_wp2
    go_ret
    exact ⟨by simp, Ext.alloc _ _⟩
  by_cases h3 : k = 3
  · subst h3
    go_enter Try.func33, Try.ntmps33
    go_wp2
    go_ret
    exact ⟨by simp, Ext.alloc _ _⟩
  go_enter Try.func33, Try.ntmps33
  go_wp2
  go_ret
  exact ⟨ret_bool (by simp [h1, h2, h3]), Ext.alloc _ _⟩

set_option maxHeartbeats 4000000 in
theorem refWrites_any (c s k i m : Int) (d : ByteArray) (w : World) :
    Calls Try.prog 34 #[.agg #[.int .i64 c, .int .i64 s, .int .i64 k, .int .i64 i, .int .i64 m, .string d]] w fun e w' => e = .returned (.bool (decide (k = 1 ∨ k = 2 ∨ k = 3))) ∧ Ext w w' := by
  by_cases h1 : k = 1
  · subst h1
    go_enter Try.func34, Try.ntmps34
    go_wp2
    go_ret
    exact ⟨by simp, Ext.alloc _ _⟩
  by_cases h2 : k = 2
  · subst h2
    go_enter Try.func34, Try.ntmps34
    go_wp2
    go_ret
    exact ⟨by simp, Ext.alloc _ _⟩
  by_cases h3 : k = 3
  · subst h3
    go_enter Try.func34, Try.ntmps34
    go_wp2
    go_ret
    exact ⟨by simp, Ext.alloc _ _⟩
  go_enter Try.func34, Try.ntmps34
  go_wp2
  go_ret
  exact ⟨ret_bool (by simp [h1, h2, h3]), Ext.alloc _ _⟩

end Go.Proofs.Ytdbnaflaobncgaa
