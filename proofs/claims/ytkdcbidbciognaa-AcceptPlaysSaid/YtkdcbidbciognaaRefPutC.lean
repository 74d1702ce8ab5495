/-
  A chain's bytes, the document's.
-/
import Derived.Test.YtkdcbidbciognaaM3
import Derived.Test.YtkdcbidbciognaaRefPutReq
namespace Go.Proofs.Ytkdcbidbciognaa
set_option linter.unusedVariables false
set_option linter.unusedSimpArgs false
open Go.RowKit Go.ChangeShapes Go.WideShapes

set_option maxRecDepth 8000 in
set_option maxHeartbeats 16000000 in
theorem refPutChain_any (ep : Nat) (A : Option Addr) (cap : Nat) (ns : List Nat) (w : World) (hs : Sl i64 w A (ints ns)) (hm : mayChainB ep (ints ns) = true) :
    Calls Try.prog 97 #[.agg #[.int .i64 ep, .slice A ns.length cap]] w fun e w' => e = .returned (.string (str (putC ep ns))) ∧ Ext w w' := by
  refine hide_post fun D hD => ?_
  have hb := mayChainB_le hm
  obtain ⟨n, hn⟩ : ∃ n, n = ns.length := ⟨_, rfl⟩
  obtain ⟨W0, hW0⟩ : ∃ W0, W0 = w.alloc (.cells #[.int .i64 ep, .slice A n cap] 26) := ⟨_, rfl⟩
  have hx0 : Ext w W0 := by rw [hW0]; exact Ext.alloc _ _
  have kB : Blk W0 w.heap.size 26 #[.int .i64 ep, .slice A n cap] := by rw [hW0]; exact Blk.new _ _ _
  have fz0 : ∀ V, Ext W0 V → V.cell? ⟨w.heap.size, 0, none⟩ = some (.int .i64 ep) := fun V h => (kB.stay h).cell 0
  have fz1 : ∀ V, Ext W0 V → V.cell? ⟨w.heap.size, 1, none⟩ = some (.slice A n cap) := fun V h => (kB.stay h).cell 1
  have FZ1 := Lib.hid fz1
  have HN := Lib.hid hn
  have hn5 : n ≤ 5 := by omega
  have hep : ep ≤ 1073741824 := hb.1
  have HNS : Hid (∀ x ∈ ns, x ≤ 4) := hb.2.2.2
  obtain ⟨B, hB⟩ : ∃ B, B = numsB [ep, n] := ⟨_, rfl⟩
  have hBl : B.length ≤ 20 := by rw [hB]; exact numsB_len _
  obtain ⟨t1, ht1⟩ : ∃ t, t = str (numB ep) := ⟨_, rfl⟩
  obtain ⟨t2, ht2⟩ : ∃ t, t = str (numB n) := ⟨_, rfl⟩
  have z1 : t1.size ≤ 10 := by rw [ht1, str_size]; exact numF_len 10 ep
  have z2 : t2.size ≤ 10 := by rw [ht2, str_size]; exact numF_len 10 n
  obtain ⟨u, hu⟩ : ∃ u, u = str B := ⟨_, rfl⟩
  have q1 : t1 ++ t2 = u := by rw [hu, hB, ht1, ht2, ← str_app]; simp [numsB]
  have C1 : Hid (∀ V, Ext W0 V → Calls Try.prog 103 #[.int .u64 ep] V fun e w' => e = .returned (.string t1) ∧ Ext V w') := fun V _ => by rw [ht1]; exact refNum_any ep V (by omega)
  have C2 : Hid (∀ V, Ext W0 V → Calls Try.prog 103 #[.int .u64 n] V fun e w' => e = .returned (.string t2) ∧ Ext V w') := fun V _ => by rw [ht2]; exact refNum_any n V (by omega)
  have hq1 : IntKind.u64.wrap (ep : Int) = (ep : Int) := wrap_u64I ep (by omega)
  have hq2 : IntKind.u64.wrap (n : Int) = (n : Int) := wrap_u64I n (by omega)
  have HPUT : Hid (putC ep ns = B ++ numsB ns) := by (show _ = _); rw [hB, HN.out]; rfl
  have HSL : Hid (∀ V, Ext W0 V → Sl i64 V A (ints ns)) := fun V h => hs.stay (Ext.trans hx0 h)
  have E0 : Hid (Ext W0 W0) := Ext.refl _
  have HX0 := Lib.hid hx0
  have HW0 := Lib.hid hW0
  have HU := Lib.hid hu
  rw [← hn]
  clear hx0 hW0 kB hs hm hb hn ht1 ht2 hu hB
  go_enter Try.func97, Try.ntmps97
  go_wp2
  rw [← HW0.out]
  refine ext_begin (by kernel_rfl) ?_
  have E0d := Lib.hid (Ext.drewR E0.out)
  refine ext_take (i := 0) (v := ?_) rfl (by kernel_rfl) (by kernel_rfl) (by kernel_rfl) (fun _ _ _ h => h) (by rfl) ?_ ?_
  rotate_left
  · intro W hW; have hW0 := Ext.trans E0d.out hW; clear hW; go_simp <;> with_reducible rfl
  try simp only [Act.put, List.setIfInBounds_toArray, List.set_cons_zero, List.set_cons_succ]
  refine ext_take (i := 1) (v := ?_) rfl (by kernel_rfl) (by kernel_rfl) (by kernel_rfl) (fun _ _ _ h => h) (by rfl) ?_ ?_
  rotate_left
  · intro W hW; have hW0 := Ext.trans E0d.out hW; clear hW; go_simp <;> with_reducible rfl
  try simp only [Act.put, List.setIfInBounds_toArray, List.set_cons_zero, List.set_cons_succ]
  refine ext_take (i := 2) (v := ?_) rfl (by kernel_rfl) (by kernel_rfl) (by kernel_rfl) (fun _ _ _ h => h) (by rfl) ?_ ?_
  rotate_left
  · intro W hW; have hW0 := Ext.trans E0d.out hW; clear hW; go_simp <;> with_reducible rfl
  try simp only [Act.put, List.setIfInBounds_toArray, List.set_cons_zero, List.set_cons_succ]
  refine ext_take (i := 4) (v := ?_) rfl (by kernel_rfl) (by kernel_rfl) (by kernel_rfl) (fun _ _ _ h => h) (by rfl) ?_ ?_
  rotate_left
  · intro W hW; have hW0 := Ext.trans E0d.out hW; clear hW; go_simp <;> with_reducible rfl
  try simp only [Act.put, List.setIfInBounds_toArray, List.set_cons_zero, List.set_cons_succ]
  refine ext_take (i := 5) (v := ?_) rfl (by kernel_rfl) (by kernel_rfl) (by kernel_rfl) (fun _ _ _ h => h) (by rfl) ?_ ?_
  rotate_left
  · intro W hW; have hW0 := Ext.trans E0d.out hW; clear hW; go_simp <;> with_reducible rfl
  try simp only [Act.put, List.setIfInBounds_toArray, List.set_cons_zero, List.set_cons_succ]
  refine ext_take (i := 6) (v := ?_) rfl (by kernel_rfl) (by kernel_rfl) (by kernel_rfl) (fun _ _ _ h => h) (by rfl) ?_ ?_
  rotate_left
  · intro W hW; have hW0 := Ext.trans E0d.out hW; clear hW; go_simp <;> with_reducible rfl
  try simp only [Act.put, List.setIfInBounds_toArray, List.set_cons_zero, List.set_cons_succ]
  refine ext_take (i := 7) (v := ?_) rfl (by kernel_rfl) (by kernel_rfl) (by kernel_rfl) (fun _ _ _ h => h) (by rfl) ?_ ?_
  rotate_left
  · intro W hW; have hW0 := Ext.trans E0d.out hW; clear hW; go_simp <;> with_reducible rfl
  try simp only [Act.put, List.setIfInBounds_toArray, List.set_cons_zero, List.set_cons_succ]
  refine ext_call (i := 3) rfl (by kernel_rfl) (by rfl) (fun K' hK => ?_)
  go_simp
  (go_at_call 103; (with_reducible refine (C1.out _ E0d.out).mono ?_); rintro e w1 ⟨rfl, hx⟩; refine hK _ _ hx ?_; clear hK)
  have Ew1 := Lib.hid (Ext.trans E0d.out hx)
  clear hx
  try simp only [Act.put, List.setIfInBounds_toArray, List.set_cons_zero, List.set_cons_succ]
  refine ext_call (i := 8) rfl (by kernel_rfl) (by rfl) (fun K' hK => ?_)
  go_simp
  (go_at_call 103; (with_reducible refine (C2.out _ Ew1.out).mono ?_); rintro e w2 ⟨rfl, hx⟩; refine hK _ _ hx ?_; clear hK)
  have Ew2 := Lib.hid (Ext.trans Ew1.out hx)
  clear hx
  try simp only [Act.put, List.setIfInBounds_toArray, List.set_cons_zero, List.set_cons_succ]
  refine ext_take (i := 9) (v := .string u) rfl (by kernel_rfl) (by kernel_rfl) (by kernel_rfl) (fun _ _ _ h => h) (by rfl) ?_ ?_
  · intro W hW; have hW0 := Ext.trans Ew2.out hW; clear hW; go_simp; all_goals (first | done | omega)
  try simp only [Act.put, List.setIfInBounds_toArray, List.set_cons_zero, List.set_cons_succ]
  refine ext_take (i := 10) (v := ?_) rfl (by kernel_rfl) (by kernel_rfl) (by kernel_rfl) (fun _ _ _ h => h) (by rfl) ?_ ?_
  rotate_left
  · intro W hW; have hW0 := Ext.trans Ew2.out hW; clear hW; go_simp <;> with_reducible rfl
  try simp only [Act.put, List.setIfInBounds_toArray, List.set_cons_zero, List.set_cons_succ]
  refine wpAnyH_done (by kernel_rfl) ?_ _
  have FZ := Lib.hid fz1
  clear fz0 fz1 q1 C1 C2 hq1 hq2
  go_wp2
  go_loopw [3, 4] (fun s i wr => ∃ j : Nat, j ≤ n ∧ s = .string (str (B ++ numsB (ns.take j))) ∧ i = .int .i64 j ∧ Hid (Ext W0 wr)) (fun _ i _ => n - (intOf i).toNat)
  case atStart => exact ⟨0, Nat.zero_le _, by rw [List.take_zero, numsB, List.append_nil, HU.out], rfl, Ew2⟩
  case round =>
    obtain ⟨j, hj, rfl, rfl, HXR⟩ := hrel
    have c1 := FZ.out wr HXR.out
    by_cases hlt : j < n
    · obtain ⟨x, hx⟩ : ∃ x, ns[j]? = some x := ⟨_, List.getElem?_eq_getElem (by rw [← HN.out]; exact hlt)⟩
      obtain ⟨b, o, rfl, hcell⟩ := (HSL.out wr HXR.out) j (x : Int) (by simp [ints, hx])
      have hxb := HNS.out x (List.mem_of_getElem? hx)
      have htk : str (B ++ numsB (ns.take (j + 1))) = str (B ++ numsB (ns.take j)) ++ str (numB x) := by rw [List.take_add_one, hx, Option.toList_some, numsB_snoc, ← List.append_assoc, str_app]
      have HTK := Lib.hid htk
      have hsz : (B ++ numsB (ns.take j)).length ≤ 70 := by rw [List.length_append]; have := numsB_len (ns.take j); rw [List.length_take] at this; omega
      have hsz2 : (str (B ++ numsB (ns.take j))).size ≤ 70 := by rw [str_size]; exact hsz
      have hsz3 : (str (numB x)).size ≤ 10 := by rw [str_size]; exact numF_len 10 x
      have C3 : Hid (Calls Try.prog 103 #[.int .u64 x] wr fun e w' => e = .returned (.string (str (numB x))) ∧ Ext wr w') := refNum_any x wr (by omega)
      have hq : IntKind.u64.wrap (x : Int) = (x : Int) := wrap_u64I x (by omega)
      unfold i64 at hcell
      generalize hS : str (B ++ numsB (ns.take j)) = S at *
      generalize hT : str (numB x) = T at *
      clear hsz htk hx
      go_wp2_with (go_at_call 103; (with_reducible refine C3.out.mono ?_); rintro e w3 ⟨rfl, hx3⟩; have HX3 : Hid (Ext W0 w3) := Ext.trans HXR.out hx3; clear hx3)
      go_roundw
      case rel => exact ⟨j + 1, by omega, by rw [HTK.out], by go_num, HX3⟩
      case measure => simp [intOf]; omega
    · have hjn : j = n := by omega
      subst hjn
      have hfin : str (B ++ numsB (ns.take j)) = str (putC ep ns) := by rw [HPUT.out, HN.out, List.take_length]
      rw [hfin]
      go_wp2
      try go_ret
      exact hD.out _ _ ⟨rfl, Ext.trans HX0.out HXR.out⟩
end Go.Proofs.Ytkdcbidbciognaa
