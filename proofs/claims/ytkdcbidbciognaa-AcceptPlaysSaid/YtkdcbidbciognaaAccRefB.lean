/-
  The document's acceptor (law 13) as bytes.
-/
import Derived.Test.YtkdcbidbciognaaAccRef
import Derived.Test.YtkdcbidbciognaaAccBytes
import Derived.Test.YtkdcbidbciognaaRefPutC
namespace Go.Proofs.Ytkdcbidbciognaa
set_option linter.unusedVariables false
set_option linter.unusedSimpArgs false
open Go.RowKit

set_option maxRecDepth 8000 in
set_option maxHeartbeats 4000000 in
theorem refPutBal_any (r n : Nat) (w : World) (hr : r ≤ 1099511627776) (hn : n ≤ 1099511627776) :
    Calls Try.prog 98 #[.agg #[.int .i64 r, .int .i64 n]] w fun e w' => e = .returned (.string (str (numB r ++ numB n))) ∧ Ext w w' := by
  refine hide_post fun D hD => ?_
  obtain ⟨W0, hW0⟩ : ∃ W0, W0 = w.alloc (.cells #[.int .i64 r, .int .i64 n] 23) := ⟨_, rfl⟩
  have hx0 : Ext w W0 := by rw [hW0]; exact Ext.alloc _ _
  have kB : Blk W0 w.heap.size 23 #[.int .i64 r, .int .i64 n] := by rw [hW0]; exact Blk.new _ _ _
  have fz0 : ∀ V, Ext W0 V → V.cell? ⟨w.heap.size, 0, none⟩ = some (.int .i64 r) := fun V h => (kB.stay h).cell 0
  have fz1 : ∀ V, Ext W0 V → V.cell? ⟨w.heap.size, 1, none⟩ = some (.int .i64 n) := fun V h => (kB.stay h).cell 1
  have C1 : Hid (∀ V, Ext W0 V → Calls Try.prog 103 #[.int .u64 r] V fun e w' => e = .returned (.string (str (numB r))) ∧ Ext V w') := fun V _ => refNum_any r V (by omega)
  have C2 : Hid (∀ V, Ext W0 V → Calls Try.prog 103 #[.int .u64 n] V fun e w' => e = .returned (.string (str (numB n))) ∧ Ext V w') := fun V _ => refNum_any n V (by omega)
  have hsum : (str (numB r)).size + (str (numB n)).size ≤ 1000000000 := by rw [str_size, str_size]; have h1 : (numB r).length ≤ 10 := numF_len 10 r; have h2 : (numB n).length ≤ 10 := numF_len 10 n; omega
  have hq1 : IntKind.u64.wrap (r : Int) = (r : Int) := wrap_u64_int r (by omega)
  have hq2 : IntKind.u64.wrap (n : Int) = (n : Int) := wrap_u64_int n (by omega)
  rw [str_appB] at hD
  have E0 : Hid (Ext W0 W0) := Ext.refl _
  have HX0 := Lib.hid hx0
  have HW0 := Lib.hid hW0
  clear hx0 hW0 kB
  go_enter Try.func98, Try.ntmps98
  go_wp2
  rw [← HW0.out]
  refine ext_begin (by kernel_rfl) ?_
  have E0d := Lib.hid (Ext.drewR E0.out)
  refine ext_take (i := 0) (v := ?_) rfl (by kernel_rfl) (by kernel_rfl) (by kernel_rfl) (fun _ _ _ h => h) (by rfl) ?_ ?_
  rotate_left
  · intro W hW; have hW0 := Ext.trans E0d.out hW; clear hW; go_simp <;> with_reducible rfl
  try simp only [Act.put, List.setIfInBounds_toArray, List.set_cons_zero, List.set_cons_succ]
  refine ext_take (i := 1) (v := ?_) rfl (by kernel_rfl) (by kernel_rfl) (by kernel_rfl) (fun _ _ _ h => h) (by rfl) ?_ ?_
  rotate_left
  · intro W hW; have hW0 := Ext.trans E0d.out hW; clear hW; go_simp <;> with_reducible rfl
  try simp only [Act.put, List.setIfInBounds_toArray, List.set_cons_zero, List.set_cons_succ]
  refine ext_take (i := 2) (v := ?_) rfl (by kernel_rfl) (by kernel_rfl) (by kernel_rfl) (fun _ _ _ h => h) (by rfl) ?_ ?_
  rotate_left
  · intro W hW; have hW0 := Ext.trans E0d.out hW; clear hW; go_simp <;> with_reducible rfl
  try simp only [Act.put, List.setIfInBounds_toArray, List.set_cons_zero, List.set_cons_succ]
  refine ext_take (i := 4) (v := ?_) rfl (by kernel_rfl) (by kernel_rfl) (by kernel_rfl) (fun _ _ _ h => h) (by rfl) ?_ ?_
  rotate_left
  · intro W hW; have hW0 := Ext.trans E0d.out hW; clear hW; go_simp <;> with_reducible rfl
  try simp only [Act.put, List.setIfInBounds_toArray, List.set_cons_zero, List.set_cons_succ]
  refine ext_take (i := 5) (v := ?_) rfl (by kernel_rfl) (by kernel_rfl) (by kernel_rfl) (fun _ _ _ h => h) (by rfl) ?_ ?_
  rotate_left
  · intro W hW; have hW0 := Ext.trans E0d.out hW; clear hW; go_simp <;> with_reducible rfl
  try simp only [Act.put, List.setIfInBounds_toArray, List.set_cons_zero, List.set_cons_succ]
  refine ext_take (i := 6) (v := ?_) rfl (by kernel_rfl) (by kernel_rfl) (by kernel_rfl) (fun _ _ _ h => h) (by rfl) ?_ ?_
  rotate_left
  · intro W hW; have hW0 := Ext.trans E0d.out hW; clear hW; go_simp <;> with_reducible rfl
  try simp only [Act.put, List.setIfInBounds_toArray, List.set_cons_zero, List.set_cons_succ]
  refine ext_call (i := 3) rfl (by kernel_rfl) (by rfl) (fun K' hK => ?_)
  go_simp
  (go_at_call 103; (with_reducible refine (C1.out _ E0d.out).mono ?_); rintro e w1 ⟨rfl, hx⟩; refine hK _ _ hx ?_; clear hK)
  have Ew1 := Lib.hid (Ext.trans E0d.out hx)
  clear hx
  try simp only [Act.put, List.setIfInBounds_toArray, List.set_cons_zero, List.set_cons_succ]
  refine ext_call (i := 7) rfl (by kernel_rfl) (by rfl) (fun K' hK => ?_)
  go_simp
  (go_at_call 103; (with_reducible refine (C2.out _ Ew1.out).mono ?_); rintro e w2 ⟨rfl, hx⟩; refine hK _ _ hx ?_; clear hK)
  have Ew2 := Lib.hid (Ext.trans Ew1.out hx)
  clear hx
  try simp only [Act.put, List.setIfInBounds_toArray, List.set_cons_zero, List.set_cons_succ]
  refine ext_take (i := 8) (v := .string (str (numB r) ++ str (numB n))) rfl (by kernel_rfl) (by kernel_rfl) (by kernel_rfl) (fun _ _ _ h => h) (by rfl) ?_ ?_
  · intro W hW; have hW0 := Ext.trans Ew2.out hW; clear hW; go_simp; all_goals (first | done | omega)
  try simp only [Act.put, List.setIfInBounds_toArray, List.set_cons_zero, List.set_cons_succ]
  refine ext_take (i := 9) (v := ?_) rfl (by kernel_rfl) (by kernel_rfl) (by kernel_rfl) (fun _ _ _ h => h) (by rfl) ?_ ?_
  rotate_left
  · intro W hW; have hW0 := Ext.trans Ew2.out hW; clear hW; go_simp <;> with_reducible rfl
  try simp only [Act.put, List.setIfInBounds_toArray, List.set_cons_zero, List.set_cons_succ]
  refine wpAnyH_done (by kernel_rfl) ?_ _
  clear fz0 fz1
  go_wp2
  try go_ret
  exact hD.out _ _ ⟨rfl, Ext.trans HX0.out Ew2.out⟩

set_option maxRecDepth 8000 in
set_option maxHeartbeats 16000000 in
theorem rbytes_n (x : Nat) (n kep : Int) (kns : List Int) (pr pn ar an vep : Int) (vns : List Int) (w : World) (H : XAt w x ⟨n, kep, kns, pr, pn, ar, an, false, vep, vns⟩) (K : AOk ⟨n, kep, kns, pr, pn, ar, an, false, vep, vns⟩) :
    Calls Try.prog 81 #[.pointer (some ⟨x, 0, none⟩)] w fun e w' => e = .returned (.string (str (chainB kep kns ++ balB pr pn ++ yesB false))) ∧ Ext w w' := by
  refine hide_post fun D hD => ?_
  obtain ⟨kA, kc, vA, vc, kB, hk, hv⟩ := H
  simp only at hk hv
  have hmk : mayChainB kep kns = true := K.hk
  have hmb : mayBal pr pn = true := K.bal
  have l1 := (chainB_len hmk).2
  have l2 := (balB_len hmb).1
  have l3 : (yesB false).length ≤ 20 := by decide
  obtain ⟨t1, ht1⟩ : ∃ t, t = str (chainB kep kns) := ⟨_, rfl⟩
  have s1 : t1.size = (chainB kep kns).length := by rw [ht1, str_size]
  obtain ⟨t2, ht2⟩ : ∃ t, t = str (balB pr pn) := ⟨_, rfl⟩
  have s2 : t2.size = (balB pr pn).length := by rw [ht2, str_size]
  obtain ⟨t3, ht3⟩ : ∃ t, t = str (yesB false) := ⟨_, rfl⟩
  have s3 : t3.size = (yesB false).length := by rw [ht3, str_size]
  obtain ⟨u2, hu2⟩ : ∃ t, t = str (chainB kep kns ++ balB pr pn) := ⟨_, rfl⟩
  have q2 : t1 ++ t2 = u2 := by rw [hu2, ht1, ht2, ← str_app]
  have z2 : u2.size = (chainB kep kns ++ balB pr pn).length := by rw [hu2, str_size]
  simp only [List.length_append] at z2
  obtain ⟨u3, hu3⟩ : ∃ t, t = str (chainB kep kns ++ balB pr pn ++ yesB false) := ⟨_, rfl⟩
  have q3 : u2 ++ t3 = u3 := by rw [hu3, hu2, ht3, ← str_app]
  have z3 : u3.size = (chainB kep kns ++ balB pr pn ++ yesB false).length := by rw [hu3, str_size]
  simp only [List.length_append] at z3
  obtain ⟨p1, hp1⟩ : ∃ p, p = str (putC kep.toNat (nats kns)) := ⟨_, rfl⟩
  have C1a : Hid (∀ V, Ext w V → Calls Try.prog 97 #[.agg #[.int .i64 kep, .slice kA kns.length kc]] V fun e w' => e = .returned (.string p1) ∧ Ext V w') := fun V h => by
    have h1 := refPutChain_any kep.toNat kA kc (nats kns) V (by rw [may_ints hmk]; exact hk.sl.stay h) (by rw [may_ints hmk, Int.toNat_of_nonneg (may_bds hmk).1]; exact hmk)
    rw [nats_len, Int.toNat_of_nonneg (may_bds hmk).1, ← hp1] at h1
    exact h1
  have C1b : Hid (∀ V, Ext w V → Calls Try.prog 96 #[.string p1] V fun e w' => e = .returned (.string t1) ∧ Ext V w') := fun V h => by
    have h2 := (chainB_len hmk).1
    have h1 := refText_any p1 V (by rw [hp1, str_size]; omega)
    rw [ht1, show chainB kep kns = numB p1.size ++ p1.data.toList from (by rw [hp1]; rfl)]
    exact h1
  have C2 : Hid (∀ V, Ext w V → Calls Try.prog 98 #[.agg #[.int .i64 pr, .int .i64 pn]] V fun e w' => e = .returned (.string t2) ∧ Ext V w') := fun V h => by
    obtain ⟨_, b1, b2, b3, b4⟩ := balB_len hmb
    have h1 := refPutBal_any pr.toNat pn.toNat V (by omega) (by omega)
    rw [b3, b4] at h1
    rw [ht2]
    exact h1
  have C3 : Hid (∀ V, Ext w V → Calls Try.prog 99 #[.bool false] V fun e w' => e = .returned (.string t3) ∧ Ext V w') := fun V h => by
    rw [ht3]
    exact (refYes_any false V).mono fun e w' ⟨h1, h2⟩ => ⟨h1, h2 ▸ Ext.refl _⟩
  rw [← hu3] at hD
  have KB : Hid (Blk w x 80 #[.int .i64 n, .int .i64 kep, .slice kA kns.length kc, .int .i64 pr, .int .i64 pn, .int .i64 ar, .int .i64 an, .bool false, .int .i64 vep, .slice vA vns.length vc]) := kB
  have y1 : ∀ V, Ext w V → V.cell? ⟨x, 1, none⟩ = some (.int .i64 kep) := fun V h => (KB.out.stay h).cell 1
  have y2 : ∀ V, Ext w V → V.cell? ⟨x, 2, none⟩ = some (.slice kA kns.length kc) := fun V h => (KB.out.stay h).cell 2
  have y3 : ∀ V, Ext w V → V.cell? ⟨x, 3, none⟩ = some (.int .i64 pr) := fun V h => (KB.out.stay h).cell 3
  have y4 : ∀ V, Ext w V → V.cell? ⟨x, 4, none⟩ = some (.int .i64 pn) := fun V h => (KB.out.stay h).cell 4
  have y5 : ∀ V, Ext w V → V.cell? ⟨x, 5, none⟩ = some (.int .i64 ar) := fun V h => (KB.out.stay h).cell 5
  have y6 : ∀ V, Ext w V → V.cell? ⟨x, 6, none⟩ = some (.int .i64 an) := fun V h => (KB.out.stay h).cell 6
  have y7 : ∀ V, Ext w V → V.cell? ⟨x, 7, none⟩ = some (.bool false) := fun V h => (KB.out.stay h).cell 7
  have y8 : ∀ V, Ext w V → V.cell? ⟨x, 8, none⟩ = some (.int .i64 vep) := fun V h => (KB.out.stay h).cell 8
  have y9 : ∀ V, Ext w V → V.cell? ⟨x, 9, none⟩ = some (.slice vA vns.length vc) := fun V h => (KB.out.stay h).cell 9
  have E0 : Hid (Ext w w) := Ext.refl _
  clear hu2 hu3 ht1 ht2 ht3 hp1 hmk hmb hk hv kB K
  generalize (chainB kep kns).length = n1 at *
  generalize (balB pr pn).length = n2 at *
  generalize (yesB false).length = n3 at *
  go_enter Try.func81, Try.ntmps81
  go_wp2
  refine ext_begin (by kernel_rfl) ?_
  have E0d := Lib.hid (Ext.drewR E0.out)
  refine ext_take (i := 0) (v := ?_) rfl (by kernel_rfl) (by kernel_rfl) (by kernel_rfl) (fun _ _ _ h => h) (by rfl) ?_ ?_
  rotate_left
  · intro W hW; have hW0 := Ext.trans E0d.out hW; clear hW; go_simp <;> with_reducible rfl
  try simp only [Act.put, List.setIfInBounds_toArray, List.set_cons_zero, List.set_cons_succ]
  refine ext_take (i := 1) (v := ?_) rfl (by kernel_rfl) (by kernel_rfl) (by kernel_rfl) (fun _ _ _ h => h) (by rfl) ?_ ?_
  rotate_left
  · intro W hW; have hW0 := Ext.trans E0d.out hW; clear hW; go_simp <;> with_reducible rfl
  try simp only [Act.put, List.setIfInBounds_toArray, List.set_cons_zero, List.set_cons_succ]
  refine ext_take (i := 2) (v := ?_) rfl (by kernel_rfl) (by kernel_rfl) (by kernel_rfl) (fun _ _ _ h => h) (by rfl) ?_ ?_
  rotate_left
  · intro W hW; have hW0 := Ext.trans E0d.out hW; clear hW; go_simp <;> with_reducible rfl
  try simp only [Act.put, List.setIfInBounds_toArray, List.set_cons_zero, List.set_cons_succ]
  refine ext_take (i := 3) (v := ?_) rfl (by kernel_rfl) (by kernel_rfl) (by kernel_rfl) (fun _ _ _ h => h) (by rfl) ?_ ?_
  rotate_left
  · intro W hW; have hW0 := Ext.trans E0d.out hW; clear hW; go_simp <;> with_reducible rfl
  try simp only [Act.put, List.setIfInBounds_toArray, List.set_cons_zero, List.set_cons_succ]
  refine ext_take (i := 6) (v := ?_) rfl (by kernel_rfl) (by kernel_rfl) (by kernel_rfl) (fun _ _ _ h => h) (by rfl) ?_ ?_
  rotate_left
  · intro W hW; have hW0 := Ext.trans E0d.out hW; clear hW; go_simp <;> with_reducible rfl
  try simp only [Act.put, List.setIfInBounds_toArray, List.set_cons_zero, List.set_cons_succ]
  refine ext_take (i := 7) (v := ?_) rfl (by kernel_rfl) (by kernel_rfl) (by kernel_rfl) (fun _ _ _ h => h) (by rfl) ?_ ?_
  rotate_left
  · intro W hW; have hW0 := Ext.trans E0d.out hW; clear hW; go_simp <;> with_reducible rfl
  try simp only [Act.put, List.setIfInBounds_toArray, List.set_cons_zero, List.set_cons_succ]
  refine ext_take (i := 8) (v := ?_) rfl (by kernel_rfl) (by kernel_rfl) (by kernel_rfl) (fun _ _ _ h => h) (by rfl) ?_ ?_
  rotate_left
  · intro W hW; have hW0 := Ext.trans E0d.out hW; clear hW; go_simp <;> with_reducible rfl
  try simp only [Act.put, List.setIfInBounds_toArray, List.set_cons_zero, List.set_cons_succ]
  refine ext_take (i := 9) (v := ?_) rfl (by kernel_rfl) (by kernel_rfl) (by kernel_rfl) (fun _ _ _ h => h) (by rfl) ?_ ?_
  rotate_left
  · intro W hW; have hW0 := Ext.trans E0d.out hW; clear hW; go_simp <;> with_reducible rfl
  try simp only [Act.put, List.setIfInBounds_toArray, List.set_cons_zero, List.set_cons_succ]
  refine ext_take (i := 10) (v := ?_) rfl (by kernel_rfl) (by kernel_rfl) (by kernel_rfl) (fun _ _ _ h => h) (by rfl) ?_ ?_
  rotate_left
  · intro W hW; have hW0 := Ext.trans E0d.out hW; clear hW; go_simp <;> with_reducible rfl
  try simp only [Act.put, List.setIfInBounds_toArray, List.set_cons_zero, List.set_cons_succ]
  refine ext_take (i := 13) (v := ?_) rfl (by kernel_rfl) (by kernel_rfl) (by kernel_rfl) (fun _ _ _ h => h) (by rfl) ?_ ?_
  rotate_left
  · intro W hW; have hW0 := Ext.trans E0d.out hW; clear hW; go_simp <;> with_reducible rfl
  try simp only [Act.put, List.setIfInBounds_toArray, List.set_cons_zero, List.set_cons_succ]
  refine ext_take (i := 14) (v := ?_) rfl (by kernel_rfl) (by kernel_rfl) (by kernel_rfl) (fun _ _ _ h => h) (by rfl) ?_ ?_
  rotate_left
  · intro W hW; have hW0 := Ext.trans E0d.out hW; clear hW; go_simp <;> with_reducible rfl
  try simp only [Act.put, List.setIfInBounds_toArray, List.set_cons_zero, List.set_cons_succ]
  refine ext_take (i := 15) (v := ?_) rfl (by kernel_rfl) (by kernel_rfl) (by kernel_rfl) (fun _ _ _ h => h) (by rfl) ?_ ?_
  rotate_left
  · intro W hW; have hW0 := Ext.trans E0d.out hW; clear hW; go_simp <;> with_reducible rfl
  try simp only [Act.put, List.setIfInBounds_toArray, List.set_cons_zero, List.set_cons_succ]
  refine ext_take (i := 16) (v := ?_) rfl (by kernel_rfl) (by kernel_rfl) (by kernel_rfl) (fun _ _ _ h => h) (by rfl) ?_ ?_
  rotate_left
  · intro W hW; have hW0 := Ext.trans E0d.out hW; clear hW; go_simp <;> with_reducible rfl
  try simp only [Act.put, List.setIfInBounds_toArray, List.set_cons_zero, List.set_cons_succ]
  refine ext_take (i := 17) (v := ?_) rfl (by kernel_rfl) (by kernel_rfl) (by kernel_rfl) (fun _ _ _ h => h) (by rfl) ?_ ?_
  rotate_left
  · intro W hW; have hW0 := Ext.trans E0d.out hW; clear hW; go_simp <;> with_reducible rfl
  try simp only [Act.put, List.setIfInBounds_toArray, List.set_cons_zero, List.set_cons_succ]
  refine ext_call (i := 4) rfl (by kernel_rfl) (by rfl) (fun K' hK => ?_)
  go_simp
  (go_at_call 97; (with_reducible refine (C1a.out _ E0d.out).mono ?_); rintro e w1 ⟨rfl, hx⟩; refine hK _ _ hx ?_; clear hK)
  have Ew1 := Lib.hid (Ext.trans E0d.out hx)
  clear hx
  try simp only [Act.put, List.setIfInBounds_toArray, List.set_cons_zero, List.set_cons_succ]
  refine ext_call (i := 5) rfl (by kernel_rfl) (by rfl) (fun K' hK => ?_)
  go_simp
  (go_at_call 96; (with_reducible refine (C1b.out _ Ew1.out).mono ?_); rintro e w2 ⟨rfl, hx⟩; refine hK _ _ hx ?_; clear hK)
  have Ew2 := Lib.hid (Ext.trans Ew1.out hx)
  clear hx
  try simp only [Act.put, List.setIfInBounds_toArray, List.set_cons_zero, List.set_cons_succ]
  refine ext_call (i := 11) rfl (by kernel_rfl) (by rfl) (fun K' hK => ?_)
  go_simp
  (go_at_call 98; (with_reducible refine (C2.out _ Ew2.out).mono ?_); rintro e w3 ⟨rfl, hx⟩; refine hK _ _ hx ?_; clear hK)
  have Ew3 := Lib.hid (Ext.trans Ew2.out hx)
  clear hx
  try simp only [Act.put, List.setIfInBounds_toArray, List.set_cons_zero, List.set_cons_succ]
  refine ext_take (i := 12) (v := .string u2) rfl (by kernel_rfl) (by kernel_rfl) (by kernel_rfl) (fun _ _ _ h => h) (by rfl) ?_ ?_
  · intro W hW; have hW0 := Ext.trans Ew3.out hW; clear hW; go_simp; all_goals (first | done | omega)
  try simp only [Act.put, List.setIfInBounds_toArray, List.set_cons_zero, List.set_cons_succ]
  refine ext_call (i := 18) rfl (by kernel_rfl) (by rfl) (fun K' hK => ?_)
  go_simp
  (go_at_call 99; (with_reducible refine (C3.out _ Ew3.out).mono ?_); rintro e w4 ⟨rfl, hx⟩; refine hK _ _ hx ?_; clear hK)
  have Ew4 := Lib.hid (Ext.trans Ew3.out hx)
  clear hx
  try simp only [Act.put, List.setIfInBounds_toArray, List.set_cons_zero, List.set_cons_succ]
  refine ext_take (i := 19) (v := .string u3) rfl (by kernel_rfl) (by kernel_rfl) (by kernel_rfl) (fun _ _ _ h => h) (by rfl) ?_ ?_
  · intro W hW; have hW0 := Ext.trans Ew4.out hW; clear hW; go_simp; all_goals (first | done | omega)
  try simp only [Act.put, List.setIfInBounds_toArray, List.set_cons_zero, List.set_cons_succ]
  refine ext_take (i := 20) (v := ?_) rfl (by kernel_rfl) (by kernel_rfl) (by kernel_rfl) (fun _ _ _ h => h) (by rfl) ?_ ?_
  rotate_left
  · intro W hW; have hW0 := Ext.trans Ew4.out hW; clear hW; go_simp <;> with_reducible rfl
  try simp only [Act.put, List.setIfInBounds_toArray, List.set_cons_zero, List.set_cons_succ]
  refine wpAnyH_done (by kernel_rfl) ?_ _
  have a7 := y7 _ Ew4.out
  have EX := Lib.hid Ew4.out
  clear y1 y2 y3 y4 y5 y6 y7 y8 y9
  go_wp2_with fail
  try go_ret
  exact hD.out _ _ ⟨rfl, EX.out⟩

set_option maxRecDepth 8000 in
set_option maxHeartbeats 16000000 in
theorem rbytes_y (x : Nat) (n kep : Int) (kns : List Int) (pr pn ar an vep : Int) (vns : List Int) (w : World) (H : XAt w x ⟨n, kep, kns, pr, pn, ar, an, true, vep, vns⟩) (K : AOk ⟨n, kep, kns, pr, pn, ar, an, true, vep, vns⟩) :
    Calls Try.prog 81 #[.pointer (some ⟨x, 0, none⟩)] w fun e w' => e = .returned (.string (str (chainB kep kns ++ balB pr pn ++ yesB true ++ balB ar an ++ chainB vep vns))) ∧ Ext w w' := by
  refine hide_post fun D hD => ?_
  obtain ⟨kA, kc, vA, vc, kB, hk, hv⟩ := H
  simp only at hk hv
  have hmk : mayChainB kep kns = true := K.hk
  have hmb : mayBal pr pn = true := K.bal
  have l1 := (chainB_len hmk).2
  have l2 := (balB_len hmb).1
  have l3 : (yesB true).length ≤ 20 := by decide
  have hy := K.yes rfl
  simp only at hy
  have hmv := (nextB_bds hy.2.2).2.1
  have l4 := (balB_len hy.1).1
  have l5 := (chainB_len hmv).2
  obtain ⟨t1, ht1⟩ : ∃ t, t = str (chainB kep kns) := ⟨_, rfl⟩
  have s1 : t1.size = (chainB kep kns).length := by rw [ht1, str_size]
  obtain ⟨t2, ht2⟩ : ∃ t, t = str (balB pr pn) := ⟨_, rfl⟩
  have s2 : t2.size = (balB pr pn).length := by rw [ht2, str_size]
  obtain ⟨t3, ht3⟩ : ∃ t, t = str (yesB true) := ⟨_, rfl⟩
  have s3 : t3.size = (yesB true).length := by rw [ht3, str_size]
  obtain ⟨t4, ht4⟩ : ∃ t, t = str (balB ar an) := ⟨_, rfl⟩
  have s4 : t4.size = (balB ar an).length := by rw [ht4, str_size]
  obtain ⟨t5, ht5⟩ : ∃ t, t = str (chainB vep vns) := ⟨_, rfl⟩
  have s5 : t5.size = (chainB vep vns).length := by rw [ht5, str_size]
  obtain ⟨u2, hu2⟩ : ∃ t, t = str (chainB kep kns ++ balB pr pn) := ⟨_, rfl⟩
  have q2 : t1 ++ t2 = u2 := by rw [hu2, ht1, ht2, ← str_app]
  have z2 : u2.size = (chainB kep kns ++ balB pr pn).length := by rw [hu2, str_size]
  simp only [List.length_append] at z2
  obtain ⟨u3, hu3⟩ : ∃ t, t = str (chainB kep kns ++ balB pr pn ++ yesB true) := ⟨_, rfl⟩
  have q3 : u2 ++ t3 = u3 := by rw [hu3, hu2, ht3, ← str_app]
  have z3 : u3.size = (chainB kep kns ++ balB pr pn ++ yesB true).length := by rw [hu3, str_size]
  simp only [List.length_append] at z3
  obtain ⟨u4, hu4⟩ : ∃ t, t = str (chainB kep kns ++ balB pr pn ++ yesB true ++ balB ar an) := ⟨_, rfl⟩
  have q4 : u3 ++ t4 = u4 := by rw [hu4, hu3, ht4, ← str_app]
  have z4 : u4.size = (chainB kep kns ++ balB pr pn ++ yesB true ++ balB ar an).length := by rw [hu4, str_size]
  simp only [List.length_append] at z4
  obtain ⟨u5, hu5⟩ : ∃ t, t = str (chainB kep kns ++ balB pr pn ++ yesB true ++ balB ar an ++ chainB vep vns) := ⟨_, rfl⟩
  have q5 : u4 ++ t5 = u5 := by rw [hu5, hu4, ht5, ← str_app]
  have z5 : u5.size = (chainB kep kns ++ balB pr pn ++ yesB true ++ balB ar an ++ chainB vep vns).length := by rw [hu5, str_size]
  simp only [List.length_append] at z5
  obtain ⟨p1, hp1⟩ : ∃ p, p = str (putC kep.toNat (nats kns)) := ⟨_, rfl⟩
  have C1a : Hid (∀ V, Ext w V → Calls Try.prog 97 #[.agg #[.int .i64 kep, .slice kA kns.length kc]] V fun e w' => e = .returned (.string p1) ∧ Ext V w') := fun V h => by
    have h1 := refPutChain_any kep.toNat kA kc (nats kns) V (by rw [may_ints hmk]; exact hk.sl.stay h) (by rw [may_ints hmk, Int.toNat_of_nonneg (may_bds hmk).1]; exact hmk)
    rw [nats_len, Int.toNat_of_nonneg (may_bds hmk).1, ← hp1] at h1
    exact h1
  have C1b : Hid (∀ V, Ext w V → Calls Try.prog 96 #[.string p1] V fun e w' => e = .returned (.string t1) ∧ Ext V w') := fun V h => by
    have h2 := (chainB_len hmk).1
    have h1 := refText_any p1 V (by rw [hp1, str_size]; omega)
    rw [ht1, show chainB kep kns = numB p1.size ++ p1.data.toList from (by rw [hp1]; rfl)]
    exact h1
  have C2 : Hid (∀ V, Ext w V → Calls Try.prog 98 #[.agg #[.int .i64 pr, .int .i64 pn]] V fun e w' => e = .returned (.string t2) ∧ Ext V w') := fun V h => by
    obtain ⟨_, b1, b2, b3, b4⟩ := balB_len hmb
    have h1 := refPutBal_any pr.toNat pn.toNat V (by omega) (by omega)
    rw [b3, b4] at h1
    rw [ht2]
    exact h1
  have C3 : Hid (∀ V, Ext w V → Calls Try.prog 99 #[.bool true] V fun e w' => e = .returned (.string t3) ∧ Ext V w') := fun V h => by
    rw [ht3]
    exact (refYes_any true V).mono fun e w' ⟨h1, h2⟩ => ⟨h1, h2 ▸ Ext.refl _⟩
  have C4 : Hid (∀ V, Ext w V → Calls Try.prog 98 #[.agg #[.int .i64 ar, .int .i64 an]] V fun e w' => e = .returned (.string t4) ∧ Ext V w') := fun V h => by
    obtain ⟨_, b1, b2, b3, b4⟩ := balB_len hy.1
    have h1 := refPutBal_any ar.toNat an.toNat V (by omega) (by omega)
    rw [b3, b4] at h1
    rw [ht4]
    exact h1
  obtain ⟨p5, hp5⟩ : ∃ p, p = str (putC vep.toNat (nats vns)) := ⟨_, rfl⟩
  have C5a : Hid (∀ V, Ext w V → Calls Try.prog 97 #[.agg #[.int .i64 vep, .slice vA vns.length vc]] V fun e w' => e = .returned (.string p5) ∧ Ext V w') := fun V h => by
    have h1 := refPutChain_any vep.toNat vA vc (nats vns) V (by rw [may_ints hmv]; exact hv.sl.stay h) (by rw [may_ints hmv, Int.toNat_of_nonneg (may_bds hmv).1]; exact hmv)
    rw [nats_len, Int.toNat_of_nonneg (may_bds hmv).1, ← hp5] at h1
    exact h1
  have C5b : Hid (∀ V, Ext w V → Calls Try.prog 96 #[.string p5] V fun e w' => e = .returned (.string t5) ∧ Ext V w') := fun V h => by
    have h2 := (chainB_len hmv).1
    have h1 := refText_any p5 V (by rw [hp5, str_size]; omega)
    rw [ht5, show chainB vep vns = numB p5.size ++ p5.data.toList from (by rw [hp5]; rfl)]
    exact h1
  rw [← hu5] at hD
  have KB : Hid (Blk w x 80 #[.int .i64 n, .int .i64 kep, .slice kA kns.length kc, .int .i64 pr, .int .i64 pn, .int .i64 ar, .int .i64 an, .bool true, .int .i64 vep, .slice vA vns.length vc]) := kB
  have y1 : ∀ V, Ext w V → V.cell? ⟨x, 1, none⟩ = some (.int .i64 kep) := fun V h => (KB.out.stay h).cell 1
  have y2 : ∀ V, Ext w V → V.cell? ⟨x, 2, none⟩ = some (.slice kA kns.length kc) := fun V h => (KB.out.stay h).cell 2
  have y3 : ∀ V, Ext w V → V.cell? ⟨x, 3, none⟩ = some (.int .i64 pr) := fun V h => (KB.out.stay h).cell 3
  have y4 : ∀ V, Ext w V → V.cell? ⟨x, 4, none⟩ = some (.int .i64 pn) := fun V h => (KB.out.stay h).cell 4
  have y5 : ∀ V, Ext w V → V.cell? ⟨x, 5, none⟩ = some (.int .i64 ar) := fun V h => (KB.out.stay h).cell 5
  have y6 : ∀ V, Ext w V → V.cell? ⟨x, 6, none⟩ = some (.int .i64 an) := fun V h => (KB.out.stay h).cell 6
  have y7 : ∀ V, Ext w V → V.cell? ⟨x, 7, none⟩ = some (.bool true) := fun V h => (KB.out.stay h).cell 7
  have y8 : ∀ V, Ext w V → V.cell? ⟨x, 8, none⟩ = some (.int .i64 vep) := fun V h => (KB.out.stay h).cell 8
  have y9 : ∀ V, Ext w V → V.cell? ⟨x, 9, none⟩ = some (.slice vA vns.length vc) := fun V h => (KB.out.stay h).cell 9
  have E0 : Hid (Ext w w) := Ext.refl _
  clear hu2 hu3 hu4 hu5 ht1 ht2 ht3 ht4 ht5 hp1 hp5 hy hmv hmk hmb hk hv kB K
  generalize (chainB kep kns).length = n1 at *
  generalize (balB pr pn).length = n2 at *
  generalize (yesB true).length = n3 at *
  generalize (balB ar an).length = n4 at *
  generalize (chainB vep vns).length = n5 at *
  go_enter Try.func81, Try.ntmps81
  go_wp2
  refine ext_begin (by kernel_rfl) ?_
  have E0d := Lib.hid (Ext.drewR E0.out)
  refine ext_take (i := 0) (v := ?_) rfl (by kernel_rfl) (by kernel_rfl) (by kernel_rfl) (fun _ _ _ h => h) (by rfl) ?_ ?_
  rotate_left
  · intro W hW; have hW0 := Ext.trans E0d.out hW; clear hW; go_simp <;> with_reducible rfl
  try simp only [Act.put, List.setIfInBounds_toArray, List.set_cons_zero, List.set_cons_succ]
  refine ext_take (i := 1) (v := ?_) rfl (by kernel_rfl) (by kernel_rfl) (by kernel_rfl) (fun _ _ _ h => h) (by rfl) ?_ ?_
  rotate_left
  · intro W hW; have hW0 := Ext.trans E0d.out hW; clear hW; go_simp <;> with_reducible rfl
  try simp only [Act.put, List.setIfInBounds_toArray, List.set_cons_zero, List.set_cons_succ]
  refine ext_take (i := 2) (v := ?_) rfl (by kernel_rfl) (by kernel_rfl) (by kernel_rfl) (fun _ _ _ h => h) (by rfl) ?_ ?_
  rotate_left
  · intro W hW; have hW0 := Ext.trans E0d.out hW; clear hW; go_simp <;> with_reducible rfl
  try simp only [Act.put, List.setIfInBounds_toArray, List.set_cons_zero, List.set_cons_succ]
  refine ext_take (i := 3) (v := ?_) rfl (by kernel_rfl) (by kernel_rfl) (by kernel_rfl) (fun _ _ _ h => h) (by rfl) ?_ ?_
  rotate_left
  · intro W hW; have hW0 := Ext.trans E0d.out hW; clear hW; go_simp <;> with_reducible rfl
  try simp only [Act.put, List.setIfInBounds_toArray, List.set_cons_zero, List.set_cons_succ]
  refine ext_take (i := 6) (v := ?_) rfl (by kernel_rfl) (by kernel_rfl) (by kernel_rfl) (fun _ _ _ h => h) (by rfl) ?_ ?_
  rotate_left
  · intro W hW; have hW0 := Ext.trans E0d.out hW; clear hW; go_simp <;> with_reducible rfl
  try simp only [Act.put, List.setIfInBounds_toArray, List.set_cons_zero, List.set_cons_succ]
  refine ext_take (i := 7) (v := ?_) rfl (by kernel_rfl) (by kernel_rfl) (by kernel_rfl) (fun _ _ _ h => h) (by rfl) ?_ ?_
  rotate_left
  · intro W hW; have hW0 := Ext.trans E0d.out hW; clear hW; go_simp <;> with_reducible rfl
  try simp only [Act.put, List.setIfInBounds_toArray, List.set_cons_zero, List.set_cons_succ]
  refine ext_take (i := 8) (v := ?_) rfl (by kernel_rfl) (by kernel_rfl) (by kernel_rfl) (fun _ _ _ h => h) (by rfl) ?_ ?_
  rotate_left
  · intro W hW; have hW0 := Ext.trans E0d.out hW; clear hW; go_simp <;> with_reducible rfl
  try simp only [Act.put, List.setIfInBounds_toArray, List.set_cons_zero, List.set_cons_succ]
  refine ext_take (i := 9) (v := ?_) rfl (by kernel_rfl) (by kernel_rfl) (by kernel_rfl) (fun _ _ _ h => h) (by rfl) ?_ ?_
  rotate_left
  · intro W hW; have hW0 := Ext.trans E0d.out hW; clear hW; go_simp <;> with_reducible rfl
  try simp only [Act.put, List.setIfInBounds_toArray, List.set_cons_zero, List.set_cons_succ]
  refine ext_take (i := 10) (v := ?_) rfl (by kernel_rfl) (by kernel_rfl) (by kernel_rfl) (fun _ _ _ h => h) (by rfl) ?_ ?_
  rotate_left
  · intro W hW; have hW0 := Ext.trans E0d.out hW; clear hW; go_simp <;> with_reducible rfl
  try simp only [Act.put, List.setIfInBounds_toArray, List.set_cons_zero, List.set_cons_succ]
  refine ext_take (i := 13) (v := ?_) rfl (by kernel_rfl) (by kernel_rfl) (by kernel_rfl) (fun _ _ _ h => h) (by rfl) ?_ ?_
  rotate_left
  · intro W hW; have hW0 := Ext.trans E0d.out hW; clear hW; go_simp <;> with_reducible rfl
  try simp only [Act.put, List.setIfInBounds_toArray, List.set_cons_zero, List.set_cons_succ]
  refine ext_take (i := 14) (v := ?_) rfl (by kernel_rfl) (by kernel_rfl) (by kernel_rfl) (fun _ _ _ h => h) (by rfl) ?_ ?_
  rotate_left
  · intro W hW; have hW0 := Ext.trans E0d.out hW; clear hW; go_simp <;> with_reducible rfl
  try simp only [Act.put, List.setIfInBounds_toArray, List.set_cons_zero, List.set_cons_succ]
  refine ext_take (i := 15) (v := ?_) rfl (by kernel_rfl) (by kernel_rfl) (by kernel_rfl) (fun _ _ _ h => h) (by rfl) ?_ ?_
  rotate_left
  · intro W hW; have hW0 := Ext.trans E0d.out hW; clear hW; go_simp <;> with_reducible rfl
  try simp only [Act.put, List.setIfInBounds_toArray, List.set_cons_zero, List.set_cons_succ]
  refine ext_take (i := 16) (v := ?_) rfl (by kernel_rfl) (by kernel_rfl) (by kernel_rfl) (fun _ _ _ h => h) (by rfl) ?_ ?_
  rotate_left
  · intro W hW; have hW0 := Ext.trans E0d.out hW; clear hW; go_simp <;> with_reducible rfl
  try simp only [Act.put, List.setIfInBounds_toArray, List.set_cons_zero, List.set_cons_succ]
  refine ext_take (i := 17) (v := ?_) rfl (by kernel_rfl) (by kernel_rfl) (by kernel_rfl) (fun _ _ _ h => h) (by rfl) ?_ ?_
  rotate_left
  · intro W hW; have hW0 := Ext.trans E0d.out hW; clear hW; go_simp <;> with_reducible rfl
  try simp only [Act.put, List.setIfInBounds_toArray, List.set_cons_zero, List.set_cons_succ]
  refine ext_call (i := 4) rfl (by kernel_rfl) (by rfl) (fun K' hK => ?_)
  go_simp
  (go_at_call 97; (with_reducible refine (C1a.out _ E0d.out).mono ?_); rintro e w1 ⟨rfl, hx⟩; refine hK _ _ hx ?_; clear hK)
  have Ew1 := Lib.hid (Ext.trans E0d.out hx)
  clear hx
  try simp only [Act.put, List.setIfInBounds_toArray, List.set_cons_zero, List.set_cons_succ]
  refine ext_call (i := 5) rfl (by kernel_rfl) (by rfl) (fun K' hK => ?_)
  go_simp
  (go_at_call 96; (with_reducible refine (C1b.out _ Ew1.out).mono ?_); rintro e w2 ⟨rfl, hx⟩; refine hK _ _ hx ?_; clear hK)
  have Ew2 := Lib.hid (Ext.trans Ew1.out hx)
  clear hx
  try simp only [Act.put, List.setIfInBounds_toArray, List.set_cons_zero, List.set_cons_succ]
  refine ext_call (i := 11) rfl (by kernel_rfl) (by rfl) (fun K' hK => ?_)
  go_simp
  (go_at_call 98; (with_reducible refine (C2.out _ Ew2.out).mono ?_); rintro e w3 ⟨rfl, hx⟩; refine hK _ _ hx ?_; clear hK)
  have Ew3 := Lib.hid (Ext.trans Ew2.out hx)
  clear hx
  try simp only [Act.put, List.setIfInBounds_toArray, List.set_cons_zero, List.set_cons_succ]
  refine ext_take (i := 12) (v := .string u2) rfl (by kernel_rfl) (by kernel_rfl) (by kernel_rfl) (fun _ _ _ h => h) (by rfl) ?_ ?_
  · intro W hW; have hW0 := Ext.trans Ew3.out hW; clear hW; go_simp; all_goals (first | done | omega)
  try simp only [Act.put, List.setIfInBounds_toArray, List.set_cons_zero, List.set_cons_succ]
  refine ext_call (i := 18) rfl (by kernel_rfl) (by rfl) (fun K' hK => ?_)
  go_simp
  (go_at_call 99; (with_reducible refine (C3.out _ Ew3.out).mono ?_); rintro e w4 ⟨rfl, hx⟩; refine hK _ _ hx ?_; clear hK)
  have Ew4 := Lib.hid (Ext.trans Ew3.out hx)
  clear hx
  try simp only [Act.put, List.setIfInBounds_toArray, List.set_cons_zero, List.set_cons_succ]
  refine ext_take (i := 19) (v := .string u3) rfl (by kernel_rfl) (by kernel_rfl) (by kernel_rfl) (fun _ _ _ h => h) (by rfl) ?_ ?_
  · intro W hW; have hW0 := Ext.trans Ew4.out hW; clear hW; go_simp; all_goals (first | done | omega)
  try simp only [Act.put, List.setIfInBounds_toArray, List.set_cons_zero, List.set_cons_succ]
  refine ext_take (i := 20) (v := ?_) rfl (by kernel_rfl) (by kernel_rfl) (by kernel_rfl) (fun _ _ _ h => h) (by rfl) ?_ ?_
  rotate_left
  · intro W hW; have hW0 := Ext.trans Ew4.out hW; clear hW; go_simp <;> with_reducible rfl
  try simp only [Act.put, List.setIfInBounds_toArray, List.set_cons_zero, List.set_cons_succ]
  refine wpAnyH_done (by kernel_rfl) ?_ _
  have a7 := y7 _ Ew4.out
  go_upto_region 3 with fail
  clear a7
  refine ext_begin (by kernel_rfl) ?_
  have Ew4d := Lib.hid (Ext.drewR Ew4.out)
  refine ext_take (i := 0) (v := ?_) rfl (by kernel_rfl) (by kernel_rfl) (by kernel_rfl) (fun _ _ _ h => h) (by rfl) ?_ ?_
  rotate_left
  · intro W hW; have hW0 := Ext.trans Ew4d.out hW; clear hW; go_simp <;> with_reducible rfl
  try simp only [Act.put, List.setIfInBounds_toArray, List.set_cons_zero, List.set_cons_succ]
  refine ext_take (i := 1) (v := ?_) rfl (by kernel_rfl) (by kernel_rfl) (by kernel_rfl) (fun _ _ _ h => h) (by rfl) ?_ ?_
  rotate_left
  · intro W hW; have hW0 := Ext.trans Ew4d.out hW; clear hW; go_simp <;> with_reducible rfl
  try simp only [Act.put, List.setIfInBounds_toArray, List.set_cons_zero, List.set_cons_succ]
  refine ext_take (i := 2) (v := ?_) rfl (by kernel_rfl) (by kernel_rfl) (by kernel_rfl) (fun _ _ _ h => h) (by rfl) ?_ ?_
  rotate_left
  · intro W hW; have hW0 := Ext.trans Ew4d.out hW; clear hW; go_simp <;> with_reducible rfl
  try simp only [Act.put, List.setIfInBounds_toArray, List.set_cons_zero, List.set_cons_succ]
  refine ext_take (i := 3) (v := ?_) rfl (by kernel_rfl) (by kernel_rfl) (by kernel_rfl) (fun _ _ _ h => h) (by rfl) ?_ ?_
  rotate_left
  · intro W hW; have hW0 := Ext.trans Ew4d.out hW; clear hW; go_simp <;> with_reducible rfl
  try simp only [Act.put, List.setIfInBounds_toArray, List.set_cons_zero, List.set_cons_succ]
  refine ext_take (i := 4) (v := ?_) rfl (by kernel_rfl) (by kernel_rfl) (by kernel_rfl) (fun _ _ _ h => h) (by rfl) ?_ ?_
  rotate_left
  · intro W hW; have hW0 := Ext.trans Ew4d.out hW; clear hW; go_simp <;> with_reducible rfl
  try simp only [Act.put, List.setIfInBounds_toArray, List.set_cons_zero, List.set_cons_succ]
  refine ext_take (i := 5) (v := ?_) rfl (by kernel_rfl) (by kernel_rfl) (by kernel_rfl) (fun _ _ _ h => h) (by rfl) ?_ ?_
  rotate_left
  · intro W hW; have hW0 := Ext.trans Ew4d.out hW; clear hW; go_simp <;> with_reducible rfl
  try simp only [Act.put, List.setIfInBounds_toArray, List.set_cons_zero, List.set_cons_succ]
  refine ext_take (i := 8) (v := ?_) rfl (by kernel_rfl) (by kernel_rfl) (by kernel_rfl) (fun _ _ _ h => h) (by rfl) ?_ ?_
  rotate_left
  · intro W hW; have hW0 := Ext.trans Ew4d.out hW; clear hW; go_simp <;> with_reducible rfl
  try simp only [Act.put, List.setIfInBounds_toArray, List.set_cons_zero, List.set_cons_succ]
  refine ext_take (i := 9) (v := ?_) rfl (by kernel_rfl) (by kernel_rfl) (by kernel_rfl) (fun _ _ _ h => h) (by rfl) ?_ ?_
  rotate_left
  · intro W hW; have hW0 := Ext.trans Ew4d.out hW; clear hW; go_simp <;> with_reducible rfl
  try simp only [Act.put, List.setIfInBounds_toArray, List.set_cons_zero, List.set_cons_succ]
  refine ext_take (i := 10) (v := ?_) rfl (by kernel_rfl) (by kernel_rfl) (by kernel_rfl) (fun _ _ _ h => h) (by rfl) ?_ ?_
  rotate_left
  · intro W hW; have hW0 := Ext.trans Ew4d.out hW; clear hW; go_simp <;> with_reducible rfl
  try simp only [Act.put, List.setIfInBounds_toArray, List.set_cons_zero, List.set_cons_succ]
  refine ext_take (i := 11) (v := ?_) rfl (by kernel_rfl) (by kernel_rfl) (by kernel_rfl) (fun _ _ _ h => h) (by rfl) ?_ ?_
  rotate_left
  · intro W hW; have hW0 := Ext.trans Ew4d.out hW; clear hW; go_simp <;> with_reducible rfl
  try simp only [Act.put, List.setIfInBounds_toArray, List.set_cons_zero, List.set_cons_succ]
  refine ext_take (i := 12) (v := ?_) rfl (by kernel_rfl) (by kernel_rfl) (by kernel_rfl) (fun _ _ _ h => h) (by rfl) ?_ ?_
  rotate_left
  · intro W hW; have hW0 := Ext.trans Ew4d.out hW; clear hW; go_simp <;> with_reducible rfl
  try simp only [Act.put, List.setIfInBounds_toArray, List.set_cons_zero, List.set_cons_succ]
  refine ext_call (i := 6) rfl (by kernel_rfl) (by rfl) (fun K' hK => ?_)
  go_simp
  (go_at_call 98; (with_reducible refine (C4.out _ Ew4d.out).mono ?_); rintro e w5 ⟨rfl, hx⟩; refine hK _ _ hx ?_; clear hK)
  have Ew5 := Lib.hid (Ext.trans Ew4d.out hx)
  clear hx
  try simp only [Act.put, List.setIfInBounds_toArray, List.set_cons_zero, List.set_cons_succ]
  refine ext_take (i := 7) (v := .string u4) rfl (by kernel_rfl) (by kernel_rfl) (by kernel_rfl) (fun _ _ _ h => h) (by rfl) ?_ ?_
  · intro W hW; have hW0 := Ext.trans Ew5.out hW; clear hW; go_simp; all_goals (first | done | omega)
  try simp only [Act.put, List.setIfInBounds_toArray, List.set_cons_zero, List.set_cons_succ]
  refine ext_call (i := 13) rfl (by kernel_rfl) (by rfl) (fun K' hK => ?_)
  go_simp
  (go_at_call 97; (with_reducible refine (C5a.out _ Ew5.out).mono ?_); rintro e w6 ⟨rfl, hx⟩; refine hK _ _ hx ?_; clear hK)
  have Ew6 := Lib.hid (Ext.trans Ew5.out hx)
  clear hx
  try simp only [Act.put, List.setIfInBounds_toArray, List.set_cons_zero, List.set_cons_succ]
  refine ext_call (i := 14) rfl (by kernel_rfl) (by rfl) (fun K' hK => ?_)
  go_simp
  (go_at_call 96; (with_reducible refine (C5b.out _ Ew6.out).mono ?_); rintro e w7 ⟨rfl, hx⟩; refine hK _ _ hx ?_; clear hK)
  have Ew7 := Lib.hid (Ext.trans Ew6.out hx)
  clear hx
  try simp only [Act.put, List.setIfInBounds_toArray, List.set_cons_zero, List.set_cons_succ]
  refine ext_take (i := 15) (v := .string u5) rfl (by kernel_rfl) (by kernel_rfl) (by kernel_rfl) (fun _ _ _ h => h) (by rfl) ?_ ?_
  · intro W hW; have hW0 := Ext.trans Ew7.out hW; clear hW; go_simp; all_goals (first | done | omega)
  try simp only [Act.put, List.setIfInBounds_toArray, List.set_cons_zero, List.set_cons_succ]
  refine ext_take (i := 16) (v := ?_) rfl (by kernel_rfl) (by kernel_rfl) (by kernel_rfl) (fun _ _ _ h => h) (by rfl) ?_ ?_
  rotate_left
  · intro W hW; have hW0 := Ext.trans Ew7.out hW; clear hW; go_simp <;> with_reducible rfl
  try simp only [Act.put, List.setIfInBounds_toArray, List.set_cons_zero, List.set_cons_succ]
  refine wpAnyH_done (by kernel_rfl) ?_ _
  have EX := Lib.hid Ew7.out
  clear y1 y2 y3 y4 y5 y6 y7 y8 y9
  go_wp2_with fail
  try go_ret
  exact hD.out _ _ ⟨rfl, EX.out⟩

theorem rbytes_any (x : Nat) (v : AV) (w : World) (H : XAt w x v) (K : AOk v) :
    Calls Try.prog 81 #[.pointer (some ⟨x, 0, none⟩)] w fun e w' => e = .returned (.string (str (bytesA v))) ∧ Ext w w' := by
  obtain ⟨n, kep, kns, pr, pn, ar, an, has, vep, vns⟩ := v
  cases has
  · have := rbytes_n x n kep kns pr pn ar an vep vns w H K
    unfold bytesA
    simpa using this
  · have := rbytes_y x n kep kns pr pn ar an vep vns w H K
    unfold bytesA
    simpa using this

end Go.Proofs.Ytkdcbidbciognaa
