/-
  The walk of the law ReqParts.
-/
import Derived.Test.YtbjekbbokhjfmaaToldReq
import Derived.Test.YtbjekbbokhjfmaaHeldR
import Derived.Test.YtbjekbbokhjfmaaReqPartsWalk
import Derived.Test.YtbjekbbokhjfmaaFrm
import Derived.RegionTactic
import Derived.BigRegion
namespace Go.Proofs.Ytbjekbbokhjfmaa
set_option linter.unusedVariables false
set_option linter.unusedSimpArgs false
open Go.RowKit Go.ChangeShapes Go.WideShapes

theorem Ext.alloc (w : World) (o : Obj) : Ext w (w.alloc o) := (Below.refl _ _).alloc (Nat.le_refl _) _

set_option maxHeartbeats 16000000 in
theorem reqParts_3 (ac as_ ak ai am : Int) (ad : ByteArray) (rc rv : Int) (rd : ByteArray) (RA : Option Addr) (rcap : Nat) (rl : List Int) (n : Int) (w : World)
    (had : ad.size ≤ maxLen) (hr : rl.length ≤ 9223372036854775807) (hR : Sl i64 w RA rl) (hrd : rd.size ≤ 140737488351232) (g1 : ¬ 50 < rl.length) (g2 : ¬ 300 < ad.size) (hm : wrap64 ((IntKind.u64.wrap n).tmod 6) = 3) : Calls Try.prog 6 #[reqV ac as_ ak ai am ad, repV rc rv rd RA rl.length rcap, .int .i64 n] w fun e w' => e = .returned (.bool true) ∧ Below w.heap.size w w' := by
  refine hide_post fun D hD => ?_
  have HRL := Lib.hid hR
  obtain ⟨w0, hw0⟩ : ∃ w0, w0 = ((((w.alloc (.cells #[.int .i64 ac, .int .i64 as_, .int .i64 ak, .int .i64 ai, .int .i64 am, .string ad] 35)).alloc (.cells #[.int .i64 rc, .int .i64 rv, .string rd, .slice RA rl.length rcap] 37)).alloc (.cells #[.int .i64 ac, .int .i64 as_, .int .i64 ak, .int .i64 ai, .int .i64 am, .string ad] 35)).alloc (.cells #[.int .i64 rc, .int .i64 rv, .string rd, .slice RA rl.length rcap] 37)).drew.drew := ⟨_, rfl⟩
  have k0 : Blk w0 w.heap.size 35 #[.int .i64 ac, .int .i64 as_, .int .i64 ak, .int .i64 ai, .int .i64 am, .string ad] := by rw [hw0]; exact (((Blk.new _ _ _).alloc _).alloc _).alloc _
  have k1 : Blk w0 (w.heap.size + 1) 37 #[.int .i64 rc, .int .i64 rv, .string rd, .slice RA rl.length rcap] := by rw [hw0]; exact ((Blk.new' _ _ _ _ (by simp)).alloc _).alloc _
  have k2 : Blk w0 (w.heap.size + 1 + 1) 35 #[.int .i64 ac, .int .i64 as_, .int .i64 ak, .int .i64 ai, .int .i64 am, .string ad] := by rw [hw0]; exact (Blk.new' _ _ _ _ (by simp)).alloc _
  have k3 : Blk w0 (w.heap.size + 1 + 1 + 1) 37 #[.int .i64 rc, .int .i64 rv, .string rd, .slice RA rl.length rcap] := by rw [hw0]; exact Blk.new' _ _ _ _ (by simp)
  have HB0 : Hid (Ext w w0) := by show Below _ _ _; rw [hw0]; exact Ext.drewR (Ext.drewR (((((Below.refl _ _).alloc (Nat.le_refl _) _).alloc (by simp) _).alloc (by simp; omega) _).alloc (by simp; omega) _))
  have HW0 := Lib.hid hw0
  have K00 := Lib.hid k0
  have K10 := Lib.hid k1
  have K20 := Lib.hid k2
  have K30 := Lib.hid k3
  clear hw0 k0 k1 k2 k3
  obtain ⟨w1, hw0⟩ : ∃ w0, w0 = ((((w.alloc (.cells #[.int .i64 ac, .int .i64 as_, .int .i64 ak, .int .i64 ai, .int .i64 am, .string ad] 35)).alloc (.cells #[.int .i64 rc, .int .i64 rv, .string rd, .slice RA rl.length rcap] 37)).alloc (.cells #[.int .i64 rc, .int .i64 rv, .string rd, .slice RA rl.length rcap] 37)).alloc (.cells #[.int .i64 ac, .int .i64 as_, .int .i64 ak, .int .i64 ai, .int .i64 am, .string ad] 35)).drew.drew := ⟨_, rfl⟩
  have k0 : Blk w1 w.heap.size 35 #[.int .i64 ac, .int .i64 as_, .int .i64 ak, .int .i64 ai, .int .i64 am, .string ad] := by rw [hw0]; exact (((Blk.new _ _ _).alloc _).alloc _).alloc _
  have k1 : Blk w1 (w.heap.size + 1) 37 #[.int .i64 rc, .int .i64 rv, .string rd, .slice RA rl.length rcap] := by rw [hw0]; exact ((Blk.new' _ _ _ _ (by simp)).alloc _).alloc _
  have k2 : Blk w1 (w.heap.size + 1 + 1 + 1) 35 #[.int .i64 ac, .int .i64 as_, .int .i64 ak, .int .i64 ai, .int .i64 am, .string ad] := by rw [hw0]; exact Blk.new' _ _ _ _ (by simp)
  have k3 : Blk w1 (w.heap.size + 1 + 1) 37 #[.int .i64 rc, .int .i64 rv, .string rd, .slice RA rl.length rcap] := by rw [hw0]; exact (Blk.new' _ _ _ _ (by simp)).alloc _
  have HB1 : Hid (Ext w w1) := by show Below _ _ _; rw [hw0]; exact Ext.drewR (Ext.drewR (((((Below.refl _ _).alloc (Nat.le_refl _) _).alloc (by simp) _).alloc (by simp; omega) _).alloc (by simp; omega) _))
  have HW1 := Lib.hid hw0
  have K01 := Lib.hid k0
  have K11 := Lib.hid k1
  have K21 := Lib.hid k2
  have K31 := Lib.hid k3
  clear hw0 k0 k1 k2 k3
  have HTO : Hid (∀ W, Calls Try.prog 19 #[] W fun e w' => e = .returned (.bool true) ∧ Ext W w') := told_req
  have HS1 : Hid (∀ W, Calls Try.prog 21 #[.agg #[.int .i64 ac, .int .i64 as_, .int .i64 ak, .int .i64 ai, .int .i64 am, .string ad], .agg #[.int .i64 ac, .int .i64 as_, .int .i64 ak, .int .i64 (bits BinOp.xor IntKind.i64 ai 1), .int .i64 am, .string ad]] W fun e w' => e = .returned (.bool false) ∧ Ext W w') := fun W => (same_any _ _ _ _ _ _ _ _ _ _ _ _ W).mono fun _ _ ⟨he, h⟩ => ⟨by rw [he, decide_eq_false (by rintro ⟨h0, h1, h2, h3, h4, h5⟩; exact (fun e => xor_ne _ 1 (by decide) e.symm) h3)], h⟩
  have HS2 : Hid (∀ W, Calls Try.prog 21 #[.agg #[.int .i64 ac, .int .i64 as_, .int .i64 ak, .int .i64 (bits BinOp.xor IntKind.i64 ai 1), .int .i64 am, .string ad], .agg #[.int .i64 ac, .int .i64 as_, .int .i64 ak, .int .i64 (bits BinOp.xor IntKind.i64 ai 1), .int .i64 am, .string ad]] W fun e w' => e = .returned (.bool true) ∧ Ext W w') := fun W => (same_any _ _ _ _ _ _ _ _ _ _ _ _ W).mono fun _ _ ⟨he, h⟩ => ⟨by rw [he, decide_eq_true (by simp)], h⟩
  clear hR
  unfold maxLen at had
  go_enter Try.func6, Try.ntmps6
  go_wp2_with fail
  go_region
  · go_wp2_with fail
    refine rx_begin (fun k => k = w.heap.size + 1 + 1 ∨ k = w.heap.size + 1 + 1 + 1 ∨ w0.heap.size ≤ k) (by kernel_rfl) ?_
    rw [← HW0.out]
    have z0 : w.heap.size + 1 + 1 < w0.heap.size := K20.out.lt
    have z1 : w.heap.size + 1 + 1 + 1 < w0.heap.size := K30.out.lt
    have z2 : w.heap.size < w0.heap.size := K00.out.lt
    have z3 : w.heap.size + 1 < w0.heap.size := K10.out.lt
    have fa3 : ∀ W, Frm (fun k => k = w.heap.size + 1 + 1 ∨ k = w.heap.size + 1 + 1 + 1 ∨ w0.heap.size ≤ k) w0 W → W.cell? ⟨w.heap.size, 3, none⟩ = some (.int .i64 ai) := fun W h => (K00.out.frm h (by rintro (e | e | e) <;> omega)).cell 3
    have fr3 : ∀ W, Frm (fun k => k = w.heap.size + 1 + 1 ∨ k = w.heap.size + 1 + 1 + 1 ∨ w0.heap.size ≤ k) w0 W → W.cell? ⟨w.heap.size + 1, 3, none⟩ = some (.slice RA rl.length rcap) := fun W h => (K10.out.frm h (by rintro (e | e | e) <;> omega)).cell 3
    refine rx_take (i := 0) (v := ?_) rfl (by kernel_rfl) (by kernel_rfl) (by kernel_rfl) (fun _ _ _ h => h) (by rfl) ?_ ?_
    rotate_left
    · intro W hW; go_simp <;> with_reducible rfl
    try simp only [Act.put, List.setIfInBounds_toArray, List.set_cons_zero, List.set_cons_succ]
    refine rx_take (i := 1) (v := ?_) rfl (by kernel_rfl) (by kernel_rfl) (by kernel_rfl) (fun _ _ _ h => h) (by rfl) ?_ ?_
    rotate_left
    · intro W hW; go_simp <;> with_reducible rfl
    try simp only [Act.put, List.setIfInBounds_toArray, List.set_cons_zero, List.set_cons_succ]
    refine rx_take (i := 2) (v := ?_) rfl (by kernel_rfl) (by kernel_rfl) (by kernel_rfl) (fun _ _ _ h => h) (by rfl) ?_ ?_
    rotate_left
    · intro W hW; go_simp <;> with_reducible rfl
    try simp only [Act.put, List.setIfInBounds_toArray, List.set_cons_zero, List.set_cons_succ]
    refine rx_take (i := 4) (v := ?_) rfl (by kernel_rfl) (by kernel_rfl) (by kernel_rfl) (fun _ _ _ h => h) (by rfl) ?_ ?_
    rotate_left
    · intro W hW; go_simp <;> with_reducible rfl
    try simp only [Act.put, List.setIfInBounds_toArray, List.set_cons_zero, List.set_cons_succ]
    refine rx_take (i := 5) (v := ?_) rfl (by kernel_rfl) (by kernel_rfl) (by kernel_rfl) (fun _ _ _ h => h) (by rfl) ?_ ?_
    rotate_left
    · intro W hW; go_simp <;> with_reducible rfl
    try simp only [Act.put, List.setIfInBounds_toArray, List.set_cons_zero, List.set_cons_succ]
    refine rx_take (i := 9) (v := ?_) rfl (by kernel_rfl) (by kernel_rfl) (by kernel_rfl) (fun _ _ _ h => h) (by rfl) ?_ ?_
    rotate_left
    · intro W hW; go_simp <;> with_reducible rfl
    try simp only [Act.put, List.setIfInBounds_toArray, List.set_cons_zero, List.set_cons_succ]
    clear fa3 fr3
    refine rx_two (i := 3) (j := 7) rfl rfl (by kernel_rfl) (by rfl) (by rfl) (fun K hK => ?_) (fun K hK => ?_)
    · go_simp
      refine hK _ _ (Frm.of_alloc _ _ _) ?_
      clear hK K
      try simp only [Act.put, List.setIfInBounds_toArray, List.set_cons_zero, List.set_cons_succ]
      refine rx_two (i := 6) (j := 7) rfl rfl (by kernel_rfl) (by rfl) (by rfl) (fun K hK => ?_) (fun K hK => ?_)
      · refine wp_append_list (.tmp 69) (.tmp 71) 22 rfl w0.heap.size 3 (.int .i64 0) 8 Try.underlying22 info_int rfl (by decide) (.slice (some ⟨w0.heap.size, 0, none⟩) 0 0) 0 [] rfl (World.ownsRow_made w0 #[] 0 (Nat.le_refl _) (by decide) rfl) i64 RA rl _ rcap rfl rfl ((HRL.out.stay HB0.out).stay (Ext.alloc w0 (Obj.cells #[] 3))) (fun _ => rfl) (by omega) (by simp <;> omega) ?_
        intro v1 W1 o1 g1' b1
        have x1 : Ext w0 W1 := below_grown (Ext.alloc w0 (Obj.cells #[] 3)) g1' (by simp <;> omega) (by simp <;> omega)
        refine hK _ _ (Frm.of_grown g1' (by intro k hk; injection hk with hk; refine Or.inr (Or.inr ?_); simp at hk; omega)) ?_
        clear hK K
        try simp only [Act.put, List.setIfInBounds_toArray, List.set_cons_zero, List.set_cons_succ]
        refine rx_call (i := 7) rfl (by kernel_rfl) (by rfl) (fun K hK => ?_)
        go_simp
        refine hK _ _ (Frm.of_alloc _ _ _) ?_
        clear hK K
        try simp only [Act.put, List.setIfInBounds_toArray, List.set_cons_zero, List.set_cons_succ]
        refine rx_call (i := 8) rfl (by kernel_rfl) (by rfl) (fun K hK => ?_)
        refine wp_append_list (.tmp 72) (.tmp 73) 22 rfl w0.heap.size 3 (.int .i64 0) 8 Try.underlying22 info_int rfl (by decide) _ _ _ rfl (o1.alloc _) i64 (some ⟨W1.heap.size, 0, none⟩) [1] 1 1 rfl rfl (Sl.of_blk (Blk.new W1 _ _) (fun j v hj => by match j, hj with | 0, hj => (simp at hj; subst hj; rfl))) (fun _ => rfl) (by simp; omega) ((Ext.trans x1 (Ext.alloc W1 (Obj.cells #[.int .i64 1] 3))).size) ?_
        intro v2 W2 o2 g2' b2
        have x2 : Ext w0 W2 := (Ext.trans x1 (Ext.alloc W1 (Obj.cells #[.int .i64 1] 3))).grown g2' ((Ext.trans x1 (Ext.alloc W1 (Obj.cells #[.int .i64 1] 3))).size) (fun k hk => (o1.lt k hk).1)
        refine hK _ _ (Frm.of_grown g2' (fun k hk => Or.inr (Or.inr (o1.lt k hk.symm).1))) ?_
        clear hK K g2' b2
        have O2 : W2.ownsRow w0.heap.size 3 1 v2 (rl ++ [1]).length ((rl ++ [1]).map i64) := by simpa using o2
        obtain ⟨A2, c2, rfl⟩ := own_shape O2
        clear o2
        rw [List.length_append] at O2
        simp only [List.length_cons, List.length_nil, Nat.zero_add] at O2
        try simp only [Act.put, List.setIfInBounds_toArray, List.set_cons_zero, List.set_cons_succ]
        have q0 := (K20.out.stay x2).cell 3
        have q1 := (K20.out.stay x2).frozen 3
        have q2 := ((K30.out.stay x2).far (p := ⟨w.heap.size + 1 + 1, 3, none⟩) (show w.heap.size + 1 + 1 + 1 ≠ w.heap.size + 1 + 1 by omega) (.int .i64 (bits BinOp.xor IntKind.i64 ai 1))).cell 3
        have q3 := ((K30.out.stay x2).far (p := ⟨w.heap.size + 1 + 1, 3, none⟩) (show w.heap.size + 1 + 1 + 1 ≠ w.heap.size + 1 + 1 by omega) (.int .i64 (bits BinOp.xor IntKind.i64 ai 1))).frozen 3
        refine rx_call (i := 10) rfl (by kernel_rfl) (by rfl) (fun K hK => ?_)
        go_simp
        refine hK _ _ (Frm.of_set _ _ _ (Or.inl rfl)) ?_
        clear hK K
        try simp only [Act.put, List.setIfInBounds_toArray, List.set_cons_zero, List.set_cons_succ]
        refine rx_take (i := 11) (v := ?_) rfl (by kernel_rfl) (by kernel_rfl) (by kernel_rfl) (fun _ _ _ h => h) (by rfl) ?_ ?_
        rotate_left
        · intro W hW; go_simp <;> with_reducible rfl
        try simp only [Act.put, List.setIfInBounds_toArray, List.set_cons_zero, List.set_cons_succ]
        refine rx_call (i := 12) rfl (by kernel_rfl) (by rfl) (fun K hK => ?_)
        go_simp
        refine hK _ _ (Frm.of_set _ _ _ (Or.inr (Or.inl rfl))) ?_
        clear hK K q0 q1 q2 q3
        try simp only [Act.put, List.setIfInBounds_toArray, List.set_cons_zero, List.set_cons_succ]
        refine wpAnyH_done (by kernel_rfl) ?_ _
        obtain ⟨W4, hW4⟩ : ∃ W4, W4 = (W2.setCell ⟨w.heap.size + 1 + 1, 3, none⟩ (.int .i64 (bits BinOp.xor IntKind.i64 ai 1))).setCell ⟨w.heap.size + 1 + 1 + 1, 3, none⟩ (.slice A2 (rl.length + 1) c2) := ⟨_, rfl⟩
        rw [← hW4]
        have M0 : Blk W4 w.heap.size 35 #[.int .i64 ac, .int .i64 as_, .int .i64 ak, .int .i64 ai, .int .i64 am, .string ad] := by rw [hW4]; exact ((K00.out.stay x2).far (show w.heap.size ≠ w.heap.size + 1 + 1 by omega) _).far (show w.heap.size ≠ w.heap.size + 1 + 1 + 1 by omega) _
        have M1 : Blk W4 (w.heap.size + 1) 37 #[.int .i64 rc, .int .i64 rv, .string rd, .slice RA rl.length rcap] := by rw [hW4]; exact ((K10.out.stay x2).far (show w.heap.size + 1 ≠ w.heap.size + 1 + 1 by omega) _).far (show w.heap.size + 1 ≠ w.heap.size + 1 + 1 + 1 by omega) _
        have M2 : Blk W4 (w.heap.size + 1 + 1) 35 #[.int .i64 ac, .int .i64 as_, .int .i64 ak, .int .i64 (bits BinOp.xor IntKind.i64 ai 1), .int .i64 am, .string ad] := by rw [hW4]; exact ((K20.out.stay x2).set 3 _).far (show w.heap.size + 1 + 1 ≠ w.heap.size + 1 + 1 + 1 by omega) _
        have M3 : Blk W4 (w.heap.size + 1 + 1 + 1) 37 #[.int .i64 rc, .int .i64 rv, .string rd, .slice A2 (rl.length + 1) c2] := by rw [hW4]; exact ((K30.out.stay x2).far (show w.heap.size + 1 + 1 + 1 ≠ w.heap.size + 1 + 1 by omega) _).set 3 _
        have hf4 : Frm (fun k => k = w.heap.size + 1 + 1 ∨ k = w.heap.size + 1 + 1 + 1) W2 W4 := by rw [hW4]; exact Frm.tr (Frm.of_set _ _ _ (Or.inl rfl)) (Frm.of_set _ _ _ (Or.inr rfl))
        have O4 := own_frm O2 hf4 (fun k hk => by have := (O2.lt k hk).1; rintro (e | e) <;> omega)
        have X24 : Ext w W4 := Frm.step (Ext.trans HB0.out x2) hf4 (Ext.trans HB0.out x2).size (by rintro k (e | e) <;> omega)
        have S4 : Sl i64 W4 A2 (rl ++ [1]) := by
          obtain ⟨A', c', he, h⟩ := own_view (l := rl ++ [1]) (f := i64) (by rw [List.length_append]; exact O4)
          injection he with he1 he2 he3
          subst he1
          exact h
        have HSR : Hid (∀ W, Ext W4 W → Calls Try.prog 22 #[.agg #[.int .i64 rc, .int .i64 rv, .string rd, .slice RA rl.length rcap], .agg #[.int .i64 rc, .int .i64 rv, .string rd, .slice A2 (rl.length + 1) c2]] W fun e w' => e = .returned (.bool false) ∧ Ext W w') := fun W hW => by
          have := sameReply_any rc rv rc rv rd rd RA A2 rl (rl ++ [1]) rcap c2 W (by omega) (by simp; omega) (HRL.out.stay (Ext.trans X24 hW)) (S4.stay hW)
          rw [decide_eq_false (by rintro ⟨_, _, _, h3⟩; have := congrArg List.length h3; simp at this), List.length_append] at this
          exact this
        have XX := Lib.hid X24
        clear hW4 hf4 O4 O2 X24 S4 x2 x1 z0 z1 o1 g1' b1
        go_wp2_with (first
          | (go_at_call 19; (with_reducible refine (HTO.out _).mono ?_); rintro e w4 ⟨rfl, hx⟩; have fa0 : ∀ W, Ext w4 W → W.cell? ⟨w.heap.size, 0, none⟩ = some (.int .i64 ac) := fun W h => ((M0.stay hx).stay h).cell 0; have fa1 : ∀ W, Ext w4 W → W.cell? ⟨w.heap.size, 1, none⟩ = some (.int .i64 as_) := fun W h => ((M0.stay hx).stay h).cell 1; have fa2 : ∀ W, Ext w4 W → W.cell? ⟨w.heap.size, 2, none⟩ = some (.int .i64 ak) := fun W h => ((M0.stay hx).stay h).cell 2; have fa3 : ∀ W, Ext w4 W → W.cell? ⟨w.heap.size, 3, none⟩ = some (.int .i64 ai) := fun W h => ((M0.stay hx).stay h).cell 3; have fa4 : ∀ W, Ext w4 W → W.cell? ⟨w.heap.size, 4, none⟩ = some (.int .i64 am) := fun W h => ((M0.stay hx).stay h).cell 4; have fa5 : ∀ W, Ext w4 W → W.cell? ⟨w.heap.size, 5, none⟩ = some (.string ad) := fun W h => ((M0.stay hx).stay h).cell 5; have fr0 : ∀ W, Ext w4 W → W.cell? ⟨w.heap.size + 1, 0, none⟩ = some (.int .i64 rc) := fun W h => ((M1.stay hx).stay h).cell 0; have fr1 : ∀ W, Ext w4 W → W.cell? ⟨w.heap.size + 1, 1, none⟩ = some (.int .i64 rv) := fun W h => ((M1.stay hx).stay h).cell 1; have fr2 : ∀ W, Ext w4 W → W.cell? ⟨w.heap.size + 1, 2, none⟩ = some (.string rd) := fun W h => ((M1.stay hx).stay h).cell 2; have fr3 : ∀ W, Ext w4 W → W.cell? ⟨w.heap.size + 1, 3, none⟩ = some (.slice RA rl.length rcap) := fun W h => ((M1.stay hx).stay h).cell 3; have fb0 : ∀ W, Ext w4 W → W.cell? ⟨w.heap.size + 1 + 1, 0, none⟩ = some (.int .i64 ac) := fun W h => ((M2.stay hx).stay h).cell 0; have fb1 : ∀ W, Ext w4 W → W.cell? ⟨w.heap.size + 1 + 1, 1, none⟩ = some (.int .i64 as_) := fun W h => ((M2.stay hx).stay h).cell 1; have fb2 : ∀ W, Ext w4 W → W.cell? ⟨w.heap.size + 1 + 1, 2, none⟩ = some (.int .i64 ak) := fun W h => ((M2.stay hx).stay h).cell 2; have fb3 : ∀ W, Ext w4 W → W.cell? ⟨w.heap.size + 1 + 1, 3, none⟩ = some (.int .i64 (bits BinOp.xor IntKind.i64 ai 1)) := fun W h => ((M2.stay hx).stay h).cell 3; have fb4 : ∀ W, Ext w4 W → W.cell? ⟨w.heap.size + 1 + 1, 4, none⟩ = some (.int .i64 am) := fun W h => ((M2.stay hx).stay h).cell 4; have fb5 : ∀ W, Ext w4 W → W.cell? ⟨w.heap.size + 1 + 1, 5, none⟩ = some (.string ad) := fun W h => ((M2.stay hx).stay h).cell 5; have fs0 : ∀ W, Ext w4 W → W.cell? ⟨w.heap.size + 1 + 1 + 1, 0, none⟩ = some (.int .i64 rc) := fun W h => ((M3.stay hx).stay h).cell 0; have fs1 : ∀ W, Ext w4 W → W.cell? ⟨w.heap.size + 1 + 1 + 1, 1, none⟩ = some (.int .i64 rv) := fun W h => ((M3.stay hx).stay h).cell 1; have fs2 : ∀ W, Ext w4 W → W.cell? ⟨w.heap.size + 1 + 1 + 1, 2, none⟩ = some (.string rd) := fun W h => ((M3.stay hx).stay h).cell 2; have fs3 : ∀ W, Ext w4 W → W.cell? ⟨w.heap.size + 1 + 1 + 1, 3, none⟩ = some (.slice A2 (rl.length + 1) c2) := fun W h => ((M3.stay hx).stay h).cell 3; have h4 : Ext w4 w4 := Ext.refl _; have X4 := Lib.hid hx; clear hx M0 M1 M2 M3)
          | (go_at_call 21; (with_reducible refine (HS1.out _).mono ?_); rintro e w5 ⟨rfl, hx⟩; have h5 : Ext w4 w5 := Ext.trans h4 hx; clear hx)
          | (go_at_call 22; (with_reducible refine (HSR.out _ (Ext.trans X4.out h5)).mono ?_); rintro e w6 ⟨rfl, hx⟩; have h6 : Ext w4 w6 := Ext.trans h5 hx; clear hx)
          | (go_at_call 21; (with_reducible refine (HS2.out _).mono ?_); rintro e w7 ⟨rfl, hx⟩; have h7 : Ext w4 w7 := Ext.trans h6 hx; clear hx))
        try go_ret
        exact hD.out _ _ ⟨rfl, Ext.trans (Ext.trans XX.out X4.out) h7⟩
      · go_simp
        refine hK _ _ (Frm.of_alloc _ _ _) ?_
        clear hK K
        try simp only [Act.put, List.setIfInBounds_toArray, List.set_cons_zero, List.set_cons_succ]
        refine rx_call (i := 6) rfl (by kernel_rfl) (by rfl) (fun K hK => ?_)
        refine wp_append_list (.tmp 69) (.tmp 71) 22 rfl w0.heap.size 3 (.int .i64 0) 8 Try.underlying22 info_int rfl (by decide) (.slice (some ⟨w0.heap.size, 0, none⟩) 0 0) 0 [] rfl ((World.ownsRow_made w0 #[] 0 (Nat.le_refl _) (by decide) rfl).alloc _) i64 RA rl _ rcap rfl rfl ((HRL.out.stay HB0.out).stay (Ext.trans (Ext.alloc w0 (Obj.cells #[] 3)) (Ext.alloc _ (Obj.cells #[.int .i64 1] 3)))) (fun _ => rfl) (by omega) (by simp <;> omega) ?_
        intro v1 W1 o1 g1' b1
        have x1 : Ext w0 W1 := below_grown (Ext.trans (Ext.alloc w0 (Obj.cells #[] 3)) (Ext.alloc _ (Obj.cells #[.int .i64 1] 3))) g1' (by simp <;> omega) (by simp <;> omega)
        refine hK _ _ (Frm.of_grown g1' (by intro k hk; injection hk with hk; refine Or.inr (Or.inr ?_); simp at hk; omega)) ?_
        clear hK K
        try simp only [Act.put, List.setIfInBounds_toArray, List.set_cons_zero, List.set_cons_succ]
        refine rx_call (i := 8) rfl (by kernel_rfl) (by rfl) (fun K hK => ?_)
        refine wp_append_list (.tmp 72) (.tmp 73) 22 rfl w0.heap.size 3 (.int .i64 0) 8 Try.underlying22 info_int rfl (by decide) _ _ _ rfl (o1) i64 (some ⟨w0.heap.size + 1, 0, none⟩) [1] 1 1 rfl rfl ((Sl.of_blk (Blk.new' (w0.alloc (Obj.cells #[] 3)) _ #[.int .i64 1] (w0.heap.size + 1) (by simp)) (fun j v hj => by match j, hj with | 0, hj => (simp at hj; subst hj; rfl))).grown g1' (by simp [Value.ownBlock])) (fun _ => rfl) (by simp; omega) ((x1).size) ?_
        intro v2 W2 o2 g2' b2
        have x2 : Ext w0 W2 := (x1).grown g2' ((x1).size) (fun k hk => (o1.lt k hk).1)
        refine hK _ _ (Frm.of_grown g2' (fun k hk => Or.inr (Or.inr (o1.lt k hk.symm).1))) ?_
        clear hK K g2' b2
        have O2 : W2.ownsRow w0.heap.size 3 1 v2 (rl ++ [1]).length ((rl ++ [1]).map i64) := by simpa using o2
        obtain ⟨A2, c2, rfl⟩ := own_shape O2
        clear o2
        rw [List.length_append] at O2
        simp only [List.length_cons, List.length_nil, Nat.zero_add] at O2
        try simp only [Act.put, List.setIfInBounds_toArray, List.set_cons_zero, List.set_cons_succ]
        have q0 := (K20.out.stay x2).cell 3
        have q1 := (K20.out.stay x2).frozen 3
        have q2 := ((K30.out.stay x2).far (p := ⟨w.heap.size + 1 + 1, 3, none⟩) (show w.heap.size + 1 + 1 + 1 ≠ w.heap.size + 1 + 1 by omega) (.int .i64 (bits BinOp.xor IntKind.i64 ai 1))).cell 3
        have q3 := ((K30.out.stay x2).far (p := ⟨w.heap.size + 1 + 1, 3, none⟩) (show w.heap.size + 1 + 1 + 1 ≠ w.heap.size + 1 + 1 by omega) (.int .i64 (bits BinOp.xor IntKind.i64 ai 1))).frozen 3
        refine rx_call (i := 10) rfl (by kernel_rfl) (by rfl) (fun K hK => ?_)
        go_simp
        refine hK _ _ (Frm.of_set _ _ _ (Or.inl rfl)) ?_
        clear hK K
        try simp only [Act.put, List.setIfInBounds_toArray, List.set_cons_zero, List.set_cons_succ]
        refine rx_take (i := 11) (v := ?_) rfl (by kernel_rfl) (by kernel_rfl) (by kernel_rfl) (fun _ _ _ h => h) (by rfl) ?_ ?_
        rotate_left
        · intro W hW; go_simp <;> with_reducible rfl
        try simp only [Act.put, List.setIfInBounds_toArray, List.set_cons_zero, List.set_cons_succ]
        refine rx_call (i := 12) rfl (by kernel_rfl) (by rfl) (fun K hK => ?_)
        go_simp
        refine hK _ _ (Frm.of_set _ _ _ (Or.inr (Or.inl rfl))) ?_
        clear hK K q0 q1 q2 q3
        try simp only [Act.put, List.setIfInBounds_toArray, List.set_cons_zero, List.set_cons_succ]
        refine wpAnyH_done (by kernel_rfl) ?_ _
        obtain ⟨W4, hW4⟩ : ∃ W4, W4 = (W2.setCell ⟨w.heap.size + 1 + 1, 3, none⟩ (.int .i64 (bits BinOp.xor IntKind.i64 ai 1))).setCell ⟨w.heap.size + 1 + 1 + 1, 3, none⟩ (.slice A2 (rl.length + 1) c2) := ⟨_, rfl⟩
        rw [← hW4]
        have M0 : Blk W4 w.heap.size 35 #[.int .i64 ac, .int .i64 as_, .int .i64 ak, .int .i64 ai, .int .i64 am, .string ad] := by rw [hW4]; exact ((K00.out.stay x2).far (show w.heap.size ≠ w.heap.size + 1 + 1 by omega) _).far (show w.heap.size ≠ w.heap.size + 1 + 1 + 1 by omega) _
        have M1 : Blk W4 (w.heap.size + 1) 37 #[.int .i64 rc, .int .i64 rv, .string rd, .slice RA rl.length rcap] := by rw [hW4]; exact ((K10.out.stay x2).far (show w.heap.size + 1 ≠ w.heap.size + 1 + 1 by omega) _).far (show w.heap.size + 1 ≠ w.heap.size + 1 + 1 + 1 by omega) _
        have M2 : Blk W4 (w.heap.size + 1 + 1) 35 #[.int .i64 ac, .int .i64 as_, .int .i64 ak, .int .i64 (bits BinOp.xor IntKind.i64 ai 1), .int .i64 am, .string ad] := by rw [hW4]; exact ((K20.out.stay x2).set 3 _).far (show w.heap.size + 1 + 1 ≠ w.heap.size + 1 + 1 + 1 by omega) _
        have M3 : Blk W4 (w.heap.size + 1 + 1 + 1) 37 #[.int .i64 rc, .int .i64 rv, .string rd, .slice A2 (rl.length + 1) c2] := by rw [hW4]; exact ((K30.out.stay x2).far (show w.heap.size + 1 + 1 + 1 ≠ w.heap.size + 1 + 1 by omega) _).set 3 _
        have hf4 : Frm (fun k => k = w.heap.size + 1 + 1 ∨ k = w.heap.size + 1 + 1 + 1) W2 W4 := by rw [hW4]; exact Frm.tr (Frm.of_set _ _ _ (Or.inl rfl)) (Frm.of_set _ _ _ (Or.inr rfl))
        have O4 := own_frm O2 hf4 (fun k hk => by have := (O2.lt k hk).1; rintro (e | e) <;> omega)
        have X24 : Ext w W4 := Frm.step (Ext.trans HB0.out x2) hf4 (Ext.trans HB0.out x2).size (by rintro k (e | e) <;> omega)
        have S4 : Sl i64 W4 A2 (rl ++ [1]) := by
          obtain ⟨A', c', he, h⟩ := own_view (l := rl ++ [1]) (f := i64) (by rw [List.length_append]; exact O4)
          injection he with he1 he2 he3
          subst he1
          exact h
        have HSR : Hid (∀ W, Ext W4 W → Calls Try.prog 22 #[.agg #[.int .i64 rc, .int .i64 rv, .string rd, .slice RA rl.length rcap], .agg #[.int .i64 rc, .int .i64 rv, .string rd, .slice A2 (rl.length + 1) c2]] W fun e w' => e = .returned (.bool false) ∧ Ext W w') := fun W hW => by
          have := sameReply_any rc rv rc rv rd rd RA A2 rl (rl ++ [1]) rcap c2 W (by omega) (by simp; omega) (HRL.out.stay (Ext.trans X24 hW)) (S4.stay hW)
          rw [decide_eq_false (by rintro ⟨_, _, _, h3⟩; have := congrArg List.length h3; simp at this), List.length_append] at this
          exact this
        have XX := Lib.hid X24
        clear hW4 hf4 O4 O2 X24 S4 x2 x1 z0 z1 o1 g1' b1
        go_wp2_with (first
          | (go_at_call 19; (with_reducible refine (HTO.out _).mono ?_); rintro e w4 ⟨rfl, hx⟩; have fa0 : ∀ W, Ext w4 W → W.cell? ⟨w.heap.size, 0, none⟩ = some (.int .i64 ac) := fun W h => ((M0.stay hx).stay h).cell 0; have fa1 : ∀ W, Ext w4 W → W.cell? ⟨w.heap.size, 1, none⟩ = some (.int .i64 as_) := fun W h => ((M0.stay hx).stay h).cell 1; have fa2 : ∀ W, Ext w4 W → W.cell? ⟨w.heap.size, 2, none⟩ = some (.int .i64 ak) := fun W h => ((M0.stay hx).stay h).cell 2; have fa3 : ∀ W, Ext w4 W → W.cell? ⟨w.heap.size, 3, none⟩ = some (.int .i64 ai) := fun W h => ((M0.stay hx).stay h).cell 3; have fa4 : ∀ W, Ext w4 W → W.cell? ⟨w.heap.size, 4, none⟩ = some (.int .i64 am) := fun W h => ((M0.stay hx).stay h).cell 4; have fa5 : ∀ W, Ext w4 W → W.cell? ⟨w.heap.size, 5, none⟩ = some (.string ad) := fun W h => ((M0.stay hx).stay h).cell 5; have fr0 : ∀ W, Ext w4 W → W.cell? ⟨w.heap.size + 1, 0, none⟩ = some (.int .i64 rc) := fun W h => ((M1.stay hx).stay h).cell 0; have fr1 : ∀ W, Ext w4 W → W.cell? ⟨w.heap.size + 1, 1, none⟩ = some (.int .i64 rv) := fun W h => ((M1.stay hx).stay h).cell 1; have fr2 : ∀ W, Ext w4 W → W.cell? ⟨w.heap.size + 1, 2, none⟩ = some (.string rd) := fun W h => ((M1.stay hx).stay h).cell 2; have fr3 : ∀ W, Ext w4 W → W.cell? ⟨w.heap.size + 1, 3, none⟩ = some (.slice RA rl.length rcap) := fun W h => ((M1.stay hx).stay h).cell 3; have fb0 : ∀ W, Ext w4 W → W.cell? ⟨w.heap.size + 1 + 1, 0, none⟩ = some (.int .i64 ac) := fun W h => ((M2.stay hx).stay h).cell 0; have fb1 : ∀ W, Ext w4 W → W.cell? ⟨w.heap.size + 1 + 1, 1, none⟩ = some (.int .i64 as_) := fun W h => ((M2.stay hx).stay h).cell 1; have fb2 : ∀ W, Ext w4 W → W.cell? ⟨w.heap.size + 1 + 1, 2, none⟩ = some (.int .i64 ak) := fun W h => ((M2.stay hx).stay h).cell 2; have fb3 : ∀ W, Ext w4 W → W.cell? ⟨w.heap.size + 1 + 1, 3, none⟩ = some (.int .i64 (bits BinOp.xor IntKind.i64 ai 1)) := fun W h => ((M2.stay hx).stay h).cell 3; have fb4 : ∀ W, Ext w4 W → W.cell? ⟨w.heap.size + 1 + 1, 4, none⟩ = some (.int .i64 am) := fun W h => ((M2.stay hx).stay h).cell 4; have fb5 : ∀ W, Ext w4 W → W.cell? ⟨w.heap.size + 1 + 1, 5, none⟩ = some (.string ad) := fun W h => ((M2.stay hx).stay h).cell 5; have fs0 : ∀ W, Ext w4 W → W.cell? ⟨w.heap.size + 1 + 1 + 1, 0, none⟩ = some (.int .i64 rc) := fun W h => ((M3.stay hx).stay h).cell 0; have fs1 : ∀ W, Ext w4 W → W.cell? ⟨w.heap.size + 1 + 1 + 1, 1, none⟩ = some (.int .i64 rv) := fun W h => ((M3.stay hx).stay h).cell 1; have fs2 : ∀ W, Ext w4 W → W.cell? ⟨w.heap.size + 1 + 1 + 1, 2, none⟩ = some (.string rd) := fun W h => ((M3.stay hx).stay h).cell 2; have fs3 : ∀ W, Ext w4 W → W.cell? ⟨w.heap.size + 1 + 1 + 1, 3, none⟩ = some (.slice A2 (rl.length + 1) c2) := fun W h => ((M3.stay hx).stay h).cell 3; have h4 : Ext w4 w4 := Ext.refl _; have X4 := Lib.hid hx; clear hx M0 M1 M2 M3)
          | (go_at_call 21; (with_reducible refine (HS1.out _).mono ?_); rintro e w5 ⟨rfl, hx⟩; have h5 : Ext w4 w5 := Ext.trans h4 hx; clear hx)
          | (go_at_call 22; (with_reducible refine (HSR.out _ (Ext.trans X4.out h5)).mono ?_); rintro e w6 ⟨rfl, hx⟩; have h6 : Ext w4 w6 := Ext.trans h5 hx; clear hx)
          | (go_at_call 21; (with_reducible refine (HS2.out _).mono ?_); rintro e w7 ⟨rfl, hx⟩; have h7 : Ext w4 w7 := Ext.trans h6 hx; clear hx))
        try go_ret
        exact hD.out _ _ ⟨rfl, Ext.trans (Ext.trans XX.out X4.out) h7⟩
    · go_simp
      refine hK _ _ (Frm.of_alloc _ _ _) ?_
      clear hK K
      try simp only [Act.put, List.setIfInBounds_toArray, List.set_cons_zero, List.set_cons_succ]
      refine rx_call (i := 3) rfl (by kernel_rfl) (by rfl) (fun K hK => ?_)
      go_simp
      refine hK _ _ (Frm.of_alloc _ _ _) ?_
      clear hK K
      try simp only [Act.put, List.setIfInBounds_toArray, List.set_cons_zero, List.set_cons_succ]
      refine rx_call (i := 6) rfl (by kernel_rfl) (by rfl) (fun K hK => ?_)
      refine wp_append_list (.tmp 69) (.tmp 71) 22 rfl w0.heap.size 3 (.int .i64 0) 8 Try.underlying22 info_int rfl (by decide) (.slice (some ⟨w0.heap.size + 1, 0, none⟩) 0 0) 0 [] rfl (by have h := World.ownsRow_made (base := w0.heap.size) (e := 3) (size := 1) (w0.alloc (Obj.cells #[.int .i64 1] 3)) #[] 0 (by simp) (by decide) rfl; rw [World.size_alloc] at h; exact h) i64 RA rl _ rcap rfl rfl ((HRL.out.stay HB0.out).stay (Ext.trans (Ext.alloc w0 (Obj.cells #[.int .i64 1] 3)) (Ext.alloc _ (Obj.cells #[] 3)))) (fun _ => rfl) (by omega) (by simp <;> omega) ?_
      intro v1 W1 o1 g1' b1
      have x1 : Ext w0 W1 := below_grown (Ext.trans (Ext.alloc w0 (Obj.cells #[.int .i64 1] 3)) (Ext.alloc _ (Obj.cells #[] 3))) g1' (by simp <;> omega) (by simp <;> omega)
      refine hK _ _ (Frm.of_grown g1' (by intro k hk; injection hk with hk; refine Or.inr (Or.inr ?_); simp at hk; omega)) ?_
      clear hK K
      try simp only [Act.put, List.setIfInBounds_toArray, List.set_cons_zero, List.set_cons_succ]
      refine rx_call (i := 8) rfl (by kernel_rfl) (by rfl) (fun K hK => ?_)
      refine wp_append_list (.tmp 72) (.tmp 73) 22 rfl w0.heap.size 3 (.int .i64 0) 8 Try.underlying22 info_int rfl (by decide) _ _ _ rfl (o1) i64 (some ⟨w0.heap.size, 0, none⟩) [1] 1 1 rfl rfl ((Sl.of_blk ((Blk.new w0 _ #[.int .i64 1]).alloc (Obj.cells #[] 3)) (fun j v hj => by match j, hj with | 0, hj => (simp at hj; subst hj; rfl))).grown g1' (by simp [Value.ownBlock])) (fun _ => rfl) (by simp; omega) ((x1).size) ?_
      intro v2 W2 o2 g2' b2
      have x2 : Ext w0 W2 := (x1).grown g2' ((x1).size) (fun k hk => (o1.lt k hk).1)
      refine hK _ _ (Frm.of_grown g2' (fun k hk => Or.inr (Or.inr (o1.lt k hk.symm).1))) ?_
      clear hK K g2' b2
      have O2 : W2.ownsRow w0.heap.size 3 1 v2 (rl ++ [1]).length ((rl ++ [1]).map i64) := by simpa using o2
      obtain ⟨A2, c2, rfl⟩ := own_shape O2
      clear o2
      rw [List.length_append] at O2
      simp only [List.length_cons, List.length_nil, Nat.zero_add] at O2
      try simp only [Act.put, List.setIfInBounds_toArray, List.set_cons_zero, List.set_cons_succ]
      have q0 := (K20.out.stay x2).cell 3
      have q1 := (K20.out.stay x2).frozen 3
      have q2 := ((K30.out.stay x2).far (p := ⟨w.heap.size + 1 + 1, 3, none⟩) (show w.heap.size + 1 + 1 + 1 ≠ w.heap.size + 1 + 1 by omega) (.int .i64 (bits BinOp.xor IntKind.i64 ai 1))).cell 3
      have q3 := ((K30.out.stay x2).far (p := ⟨w.heap.size + 1 + 1, 3, none⟩) (show w.heap.size + 1 + 1 + 1 ≠ w.heap.size + 1 + 1 by omega) (.int .i64 (bits BinOp.xor IntKind.i64 ai 1))).frozen 3
      refine rx_call (i := 10) rfl (by kernel_rfl) (by rfl) (fun K hK => ?_)
      go_simp
      refine hK _ _ (Frm.of_set _ _ _ (Or.inl rfl)) ?_
      clear hK K
      try simp only [Act.put, List.setIfInBounds_toArray, List.set_cons_zero, List.set_cons_succ]
      refine rx_take (i := 11) (v := ?_) rfl (by kernel_rfl) (by kernel_rfl) (by kernel_rfl) (fun _ _ _ h => h) (by rfl) ?_ ?_
      rotate_left
      · intro W hW; go_simp <;> with_reducible rfl
      try simp only [Act.put, List.setIfInBounds_toArray, List.set_cons_zero, List.set_cons_succ]
      refine rx_call (i := 12) rfl (by kernel_rfl) (by rfl) (fun K hK => ?_)
      go_simp
      refine hK _ _ (Frm.of_set _ _ _ (Or.inr (Or.inl rfl))) ?_
      clear hK K q0 q1 q2 q3
      try simp only [Act.put, List.setIfInBounds_toArray, List.set_cons_zero, List.set_cons_succ]
      refine wpAnyH_done (by kernel_rfl) ?_ _
      obtain ⟨W4, hW4⟩ : ∃ W4, W4 = (W2.setCell ⟨w.heap.size + 1 + 1, 3, none⟩ (.int .i64 (bits BinOp.xor IntKind.i64 ai 1))).setCell ⟨w.heap.size + 1 + 1 + 1, 3, none⟩ (.slice A2 (rl.length + 1) c2) := ⟨_, rfl⟩
      rw [← hW4]
      have M0 : Blk W4 w.heap.size 35 #[.int .i64 ac, .int .i64 as_, .int .i64 ak, .int .i64 ai, .int .i64 am, .string ad] := by rw [hW4]; exact ((K00.out.stay x2).far (show w.heap.size ≠ w.heap.size + 1 + 1 by omega) _).far (show w.heap.size ≠ w.heap.size + 1 + 1 + 1 by omega) _
      have M1 : Blk W4 (w.heap.size + 1) 37 #[.int .i64 rc, .int .i64 rv, .string rd, .slice RA rl.length rcap] := by rw [hW4]; exact ((K10.out.stay x2).far (show w.heap.size + 1 ≠ w.heap.size + 1 + 1 by omega) _).far (show w.heap.size + 1 ≠ w.heap.size + 1 + 1 + 1 by omega) _
      have M2 : Blk W4 (w.heap.size + 1 + 1) 35 #[.int .i64 ac, .int .i64 as_, .int .i64 ak, .int .i64 (bits BinOp.xor IntKind.i64 ai 1), .int .i64 am, .string ad] := by rw [hW4]; exact ((K20.out.stay x2).set 3 _).far (show w.heap.size + 1 + 1 ≠ w.heap.size + 1 + 1 + 1 by omega) _
      have M3 : Blk W4 (w.heap.size + 1 + 1 + 1) 37 #[.int .i64 rc, .int .i64 rv, .string rd, .slice A2 (rl.length + 1) c2] := by rw [hW4]; exact ((K30.out.stay x2).far (show w.heap.size + 1 + 1 + 1 ≠ w.heap.size + 1 + 1 by omega) _).set 3 _
      have hf4 : Frm (fun k => k = w.heap.size + 1 + 1 ∨ k = w.heap.size + 1 + 1 + 1) W2 W4 := by rw [hW4]; exact Frm.tr (Frm.of_set _ _ _ (Or.inl rfl)) (Frm.of_set _ _ _ (Or.inr rfl))
      have O4 := own_frm O2 hf4 (fun k hk => by have := (O2.lt k hk).1; rintro (e | e) <;> omega)
      have X24 : Ext w W4 := Frm.step (Ext.trans HB0.out x2) hf4 (Ext.trans HB0.out x2).size (by rintro k (e | e) <;> omega)
      have S4 : Sl i64 W4 A2 (rl ++ [1]) := by
        obtain ⟨A', c', he, h⟩ := own_view (l := rl ++ [1]) (f := i64) (by rw [List.length_append]; exact O4)
        injection he with he1 he2 he3
        subst he1
        exact h
      have HSR : Hid (∀ W, Ext W4 W → Calls Try.prog 22 #[.agg #[.int .i64 rc, .int .i64 rv, .string rd, .slice RA rl.length rcap], .agg #[.int .i64 rc, .int .i64 rv, .string rd, .slice A2 (rl.length + 1) c2]] W fun e w' => e = .returned (.bool false) ∧ Ext W w') := fun W hW => by
        have := sameReply_any rc rv rc rv rd rd RA A2 rl (rl ++ [1]) rcap c2 W (by omega) (by simp; omega) (HRL.out.stay (Ext.trans X24 hW)) (S4.stay hW)
        rw [decide_eq_false (by rintro ⟨_, _, _, h3⟩; have := congrArg List.length h3; simp at this), List.length_append] at this
        exact this
      have XX := Lib.hid X24
      clear hW4 hf4 O4 O2 X24 S4 x2 x1 z0 z1 o1 g1' b1
      go_wp2_with (first
        | (go_at_call 19; (with_reducible refine (HTO.out _).mono ?_); rintro e w4 ⟨rfl, hx⟩; have fa0 : ∀ W, Ext w4 W → W.cell? ⟨w.heap.size, 0, none⟩ = some (.int .i64 ac) := fun W h => ((M0.stay hx).stay h).cell 0; have fa1 : ∀ W, Ext w4 W → W.cell? ⟨w.heap.size, 1, none⟩ = some (.int .i64 as_) := fun W h => ((M0.stay hx).stay h).cell 1; have fa2 : ∀ W, Ext w4 W → W.cell? ⟨w.heap.size, 2, none⟩ = some (.int .i64 ak) := fun W h => ((M0.stay hx).stay h).cell 2; have fa3 : ∀ W, Ext w4 W → W.cell? ⟨w.heap.size, 3, none⟩ = some (.int .i64 ai) := fun W h => ((M0.stay hx).stay h).cell 3; have fa4 : ∀ W, Ext w4 W → W.cell? ⟨w.heap.size, 4, none⟩ = some (.int .i64 am) := fun W h => ((M0.stay hx).stay h).cell 4; have fa5 : ∀ W, Ext w4 W → W.cell? ⟨w.heap.size, 5, none⟩ = some (.string ad) := fun W h => ((M0.stay hx).stay h).cell 5; have fr0 : ∀ W, Ext w4 W → W.cell? ⟨w.heap.size + 1, 0, none⟩ = some (.int .i64 rc) := fun W h => ((M1.stay hx).stay h).cell 0; have fr1 : ∀ W, Ext w4 W → W.cell? ⟨w.heap.size + 1, 1, none⟩ = some (.int .i64 rv) := fun W h => ((M1.stay hx).stay h).cell 1; have fr2 : ∀ W, Ext w4 W → W.cell? ⟨w.heap.size + 1, 2, none⟩ = some (.string rd) := fun W h => ((M1.stay hx).stay h).cell 2; have fr3 : ∀ W, Ext w4 W → W.cell? ⟨w.heap.size + 1, 3, none⟩ = some (.slice RA rl.length rcap) := fun W h => ((M1.stay hx).stay h).cell 3; have fb0 : ∀ W, Ext w4 W → W.cell? ⟨w.heap.size + 1 + 1, 0, none⟩ = some (.int .i64 ac) := fun W h => ((M2.stay hx).stay h).cell 0; have fb1 : ∀ W, Ext w4 W → W.cell? ⟨w.heap.size + 1 + 1, 1, none⟩ = some (.int .i64 as_) := fun W h => ((M2.stay hx).stay h).cell 1; have fb2 : ∀ W, Ext w4 W → W.cell? ⟨w.heap.size + 1 + 1, 2, none⟩ = some (.int .i64 ak) := fun W h => ((M2.stay hx).stay h).cell 2; have fb3 : ∀ W, Ext w4 W → W.cell? ⟨w.heap.size + 1 + 1, 3, none⟩ = some (.int .i64 (bits BinOp.xor IntKind.i64 ai 1)) := fun W h => ((M2.stay hx).stay h).cell 3; have fb4 : ∀ W, Ext w4 W → W.cell? ⟨w.heap.size + 1 + 1, 4, none⟩ = some (.int .i64 am) := fun W h => ((M2.stay hx).stay h).cell 4; have fb5 : ∀ W, Ext w4 W → W.cell? ⟨w.heap.size + 1 + 1, 5, none⟩ = some (.string ad) := fun W h => ((M2.stay hx).stay h).cell 5; have fs0 : ∀ W, Ext w4 W → W.cell? ⟨w.heap.size + 1 + 1 + 1, 0, none⟩ = some (.int .i64 rc) := fun W h => ((M3.stay hx).stay h).cell 0; have fs1 : ∀ W, Ext w4 W → W.cell? ⟨w.heap.size + 1 + 1 + 1, 1, none⟩ = some (.int .i64 rv) := fun W h => ((M3.stay hx).stay h).cell 1; have fs2 : ∀ W, Ext w4 W → W.cell? ⟨w.heap.size + 1 + 1 + 1, 2, none⟩ = some (.string rd) := fun W h => ((M3.stay hx).stay h).cell 2; have fs3 : ∀ W, Ext w4 W → W.cell? ⟨w.heap.size + 1 + 1 + 1, 3, none⟩ = some (.slice A2 (rl.length + 1) c2) := fun W h => ((M3.stay hx).stay h).cell 3; have h4 : Ext w4 w4 := Ext.refl _; have X4 := Lib.hid hx; clear hx M0 M1 M2 M3)
        | (go_at_call 21; (with_reducible refine (HS1.out _).mono ?_); rintro e w5 ⟨rfl, hx⟩; have h5 : Ext w4 w5 := Ext.trans h4 hx; clear hx)
        | (go_at_call 22; (with_reducible refine (HSR.out _ (Ext.trans X4.out h5)).mono ?_); rintro e w6 ⟨rfl, hx⟩; have h6 : Ext w4 w6 := Ext.trans h5 hx; clear hx)
        | (go_at_call 21; (with_reducible refine (HS2.out _).mono ?_); rintro e w7 ⟨rfl, hx⟩; have h7 : Ext w4 w7 := Ext.trans h6 hx; clear hx))
      try go_ret
      exact hD.out _ _ ⟨rfl, Ext.trans (Ext.trans XX.out X4.out) h7⟩
  · go_wp2_with fail
    refine rx_begin (fun k => k = w.heap.size + 1 + 1 + 1 ∨ k = w.heap.size + 1 + 1 ∨ w1.heap.size ≤ k) (by kernel_rfl) ?_
    rw [← HW1.out]
    have z0 : w.heap.size + 1 + 1 + 1 < w1.heap.size := K21.out.lt
    have z1 : w.heap.size + 1 + 1 < w1.heap.size := K31.out.lt
    have z2 : w.heap.size < w1.heap.size := K01.out.lt
    have z3 : w.heap.size + 1 < w1.heap.size := K11.out.lt
    have fa3 : ∀ W, Frm (fun k => k = w.heap.size + 1 + 1 + 1 ∨ k = w.heap.size + 1 + 1 ∨ w1.heap.size ≤ k) w1 W → W.cell? ⟨w.heap.size, 3, none⟩ = some (.int .i64 ai) := fun W h => (K01.out.frm h (by rintro (e | e | e) <;> omega)).cell 3
    have fr3 : ∀ W, Frm (fun k => k = w.heap.size + 1 + 1 + 1 ∨ k = w.heap.size + 1 + 1 ∨ w1.heap.size ≤ k) w1 W → W.cell? ⟨w.heap.size + 1, 3, none⟩ = some (.slice RA rl.length rcap) := fun W h => (K11.out.frm h (by rintro (e | e | e) <;> omega)).cell 3
    refine rx_take (i := 0) (v := ?_) rfl (by kernel_rfl) (by kernel_rfl) (by kernel_rfl) (fun _ _ _ h => h) (by rfl) ?_ ?_
    rotate_left
    · intro W hW; go_simp <;> with_reducible rfl
    try simp only [Act.put, List.setIfInBounds_toArray, List.set_cons_zero, List.set_cons_succ]
    refine rx_take (i := 1) (v := ?_) rfl (by kernel_rfl) (by kernel_rfl) (by kernel_rfl) (fun _ _ _ h => h) (by rfl) ?_ ?_
    rotate_left
    · intro W hW; go_simp <;> with_reducible rfl
    try simp only [Act.put, List.setIfInBounds_toArray, List.set_cons_zero, List.set_cons_succ]
    refine rx_take (i := 2) (v := ?_) rfl (by kernel_rfl) (by kernel_rfl) (by kernel_rfl) (fun _ _ _ h => h) (by rfl) ?_ ?_
    rotate_left
    · intro W hW; go_simp <;> with_reducible rfl
    try simp only [Act.put, List.setIfInBounds_toArray, List.set_cons_zero, List.set_cons_succ]
    refine rx_take (i := 4) (v := ?_) rfl (by kernel_rfl) (by kernel_rfl) (by kernel_rfl) (fun _ _ _ h => h) (by rfl) ?_ ?_
    rotate_left
    · intro W hW; go_simp <;> with_reducible rfl
    try simp only [Act.put, List.setIfInBounds_toArray, List.set_cons_zero, List.set_cons_succ]
    refine rx_take (i := 5) (v := ?_) rfl (by kernel_rfl) (by kernel_rfl) (by kernel_rfl) (fun _ _ _ h => h) (by rfl) ?_ ?_
    rotate_left
    · intro W hW; go_simp <;> with_reducible rfl
    try simp only [Act.put, List.setIfInBounds_toArray, List.set_cons_zero, List.set_cons_succ]
    refine rx_take (i := 9) (v := ?_) rfl (by kernel_rfl) (by kernel_rfl) (by kernel_rfl) (fun _ _ _ h => h) (by rfl) ?_ ?_
    rotate_left
    · intro W hW; go_simp <;> with_reducible rfl
    try simp only [Act.put, List.setIfInBounds_toArray, List.set_cons_zero, List.set_cons_succ]
    clear fa3 fr3
    refine rx_two (i := 3) (j := 7) rfl rfl (by kernel_rfl) (by rfl) (by rfl) (fun K hK => ?_) (fun K hK => ?_)
    · go_simp
      refine hK _ _ (Frm.of_alloc _ _ _) ?_
      clear hK K
      try simp only [Act.put, List.setIfInBounds_toArray, List.set_cons_zero, List.set_cons_succ]
      refine rx_two (i := 6) (j := 7) rfl rfl (by kernel_rfl) (by rfl) (by rfl) (fun K hK => ?_) (fun K hK => ?_)
      · refine wp_append_list (.tmp 69) (.tmp 71) 22 rfl w1.heap.size 3 (.int .i64 0) 8 Try.underlying22 info_int rfl (by decide) (.slice (some ⟨w1.heap.size, 0, none⟩) 0 0) 0 [] rfl (World.ownsRow_made w1 #[] 0 (Nat.le_refl _) (by decide) rfl) i64 RA rl _ rcap rfl rfl ((HRL.out.stay HB1.out).stay (Ext.alloc w1 (Obj.cells #[] 3))) (fun _ => rfl) (by omega) (by simp <;> omega) ?_
        intro v1 W1 o1 g1' b1
        have x1 : Ext w1 W1 := below_grown (Ext.alloc w1 (Obj.cells #[] 3)) g1' (by simp <;> omega) (by simp <;> omega)
        refine hK _ _ (Frm.of_grown g1' (by intro k hk; injection hk with hk; refine Or.inr (Or.inr ?_); simp at hk; omega)) ?_
        clear hK K
        try simp only [Act.put, List.setIfInBounds_toArray, List.set_cons_zero, List.set_cons_succ]
        refine rx_call (i := 7) rfl (by kernel_rfl) (by rfl) (fun K hK => ?_)
        go_simp
        refine hK _ _ (Frm.of_alloc _ _ _) ?_
        clear hK K
        try simp only [Act.put, List.setIfInBounds_toArray, List.set_cons_zero, List.set_cons_succ]
        refine rx_call (i := 8) rfl (by kernel_rfl) (by rfl) (fun K hK => ?_)
        refine wp_append_list (.tmp 72) (.tmp 73) 22 rfl w1.heap.size 3 (.int .i64 0) 8 Try.underlying22 info_int rfl (by decide) _ _ _ rfl (o1.alloc _) i64 (some ⟨W1.heap.size, 0, none⟩) [1] 1 1 rfl rfl (Sl.of_blk (Blk.new W1 _ _) (fun j v hj => by match j, hj with | 0, hj => (simp at hj; subst hj; rfl))) (fun _ => rfl) (by simp; omega) ((Ext.trans x1 (Ext.alloc W1 (Obj.cells #[.int .i64 1] 3))).size) ?_
        intro v2 W2 o2 g2' b2
        have x2 : Ext w1 W2 := (Ext.trans x1 (Ext.alloc W1 (Obj.cells #[.int .i64 1] 3))).grown g2' ((Ext.trans x1 (Ext.alloc W1 (Obj.cells #[.int .i64 1] 3))).size) (fun k hk => (o1.lt k hk).1)
        refine hK _ _ (Frm.of_grown g2' (fun k hk => Or.inr (Or.inr (o1.lt k hk.symm).1))) ?_
        clear hK K g2' b2
        have O2 : W2.ownsRow w1.heap.size 3 1 v2 (rl ++ [1]).length ((rl ++ [1]).map i64) := by simpa using o2
        obtain ⟨A2, c2, rfl⟩ := own_shape O2
        clear o2
        rw [List.length_append] at O2
        simp only [List.length_cons, List.length_nil, Nat.zero_add] at O2
        try simp only [Act.put, List.setIfInBounds_toArray, List.set_cons_zero, List.set_cons_succ]
        have q0 := (K21.out.stay x2).cell 3
        have q1 := (K21.out.stay x2).frozen 3
        have q2 := ((K31.out.stay x2).far (p := ⟨w.heap.size + 1 + 1 + 1, 3, none⟩) (show w.heap.size + 1 + 1 ≠ w.heap.size + 1 + 1 + 1 by omega) (.int .i64 (bits BinOp.xor IntKind.i64 ai 1))).cell 3
        have q3 := ((K31.out.stay x2).far (p := ⟨w.heap.size + 1 + 1 + 1, 3, none⟩) (show w.heap.size + 1 + 1 ≠ w.heap.size + 1 + 1 + 1 by omega) (.int .i64 (bits BinOp.xor IntKind.i64 ai 1))).frozen 3
        refine rx_call (i := 10) rfl (by kernel_rfl) (by rfl) (fun K hK => ?_)
        go_simp
        refine hK _ _ (Frm.of_set _ _ _ (Or.inl rfl)) ?_
        clear hK K
        try simp only [Act.put, List.setIfInBounds_toArray, List.set_cons_zero, List.set_cons_succ]
        refine rx_take (i := 11) (v := ?_) rfl (by kernel_rfl) (by kernel_rfl) (by kernel_rfl) (fun _ _ _ h => h) (by rfl) ?_ ?_
        rotate_left
        · intro W hW; go_simp <;> with_reducible rfl
        try simp only [Act.put, List.setIfInBounds_toArray, List.set_cons_zero, List.set_cons_succ]
        refine rx_call (i := 12) rfl (by kernel_rfl) (by rfl) (fun K hK => ?_)
        go_simp
        refine hK _ _ (Frm.of_set _ _ _ (Or.inr (Or.inl rfl))) ?_
        clear hK K q0 q1 q2 q3
        try simp only [Act.put, List.setIfInBounds_toArray, List.set_cons_zero, List.set_cons_succ]
        refine wpAnyH_done (by kernel_rfl) ?_ _
        obtain ⟨W4, hW4⟩ : ∃ W4, W4 = (W2.setCell ⟨w.heap.size + 1 + 1 + 1, 3, none⟩ (.int .i64 (bits BinOp.xor IntKind.i64 ai 1))).setCell ⟨w.heap.size + 1 + 1, 3, none⟩ (.slice A2 (rl.length + 1) c2) := ⟨_, rfl⟩
        rw [← hW4]
        have M0 : Blk W4 w.heap.size 35 #[.int .i64 ac, .int .i64 as_, .int .i64 ak, .int .i64 ai, .int .i64 am, .string ad] := by rw [hW4]; exact ((K01.out.stay x2).far (show w.heap.size ≠ w.heap.size + 1 + 1 + 1 by omega) _).far (show w.heap.size ≠ w.heap.size + 1 + 1 by omega) _
        have M1 : Blk W4 (w.heap.size + 1) 37 #[.int .i64 rc, .int .i64 rv, .string rd, .slice RA rl.length rcap] := by rw [hW4]; exact ((K11.out.stay x2).far (show w.heap.size + 1 ≠ w.heap.size + 1 + 1 + 1 by omega) _).far (show w.heap.size + 1 ≠ w.heap.size + 1 + 1 by omega) _
        have M2 : Blk W4 (w.heap.size + 1 + 1 + 1) 35 #[.int .i64 ac, .int .i64 as_, .int .i64 ak, .int .i64 (bits BinOp.xor IntKind.i64 ai 1), .int .i64 am, .string ad] := by rw [hW4]; exact ((K21.out.stay x2).set 3 _).far (show w.heap.size + 1 + 1 + 1 ≠ w.heap.size + 1 + 1 by omega) _
        have M3 : Blk W4 (w.heap.size + 1 + 1) 37 #[.int .i64 rc, .int .i64 rv, .string rd, .slice A2 (rl.length + 1) c2] := by rw [hW4]; exact ((K31.out.stay x2).far (show w.heap.size + 1 + 1 ≠ w.heap.size + 1 + 1 + 1 by omega) _).set 3 _
        have hf4 : Frm (fun k => k = w.heap.size + 1 + 1 + 1 ∨ k = w.heap.size + 1 + 1) W2 W4 := by rw [hW4]; exact Frm.tr (Frm.of_set _ _ _ (Or.inl rfl)) (Frm.of_set _ _ _ (Or.inr rfl))
        have O4 := own_frm O2 hf4 (fun k hk => by have := (O2.lt k hk).1; rintro (e | e) <;> omega)
        have X24 : Ext w W4 := Frm.step (Ext.trans HB1.out x2) hf4 (Ext.trans HB1.out x2).size (by rintro k (e | e) <;> omega)
        have S4 : Sl i64 W4 A2 (rl ++ [1]) := by
          obtain ⟨A', c', he, h⟩ := own_view (l := rl ++ [1]) (f := i64) (by rw [List.length_append]; exact O4)
          injection he with he1 he2 he3
          subst he1
          exact h
        have HSR : Hid (∀ W, Ext W4 W → Calls Try.prog 22 #[.agg #[.int .i64 rc, .int .i64 rv, .string rd, .slice RA rl.length rcap], .agg #[.int .i64 rc, .int .i64 rv, .string rd, .slice A2 (rl.length + 1) c2]] W fun e w' => e = .returned (.bool false) ∧ Ext W w') := fun W hW => by
          have := sameReply_any rc rv rc rv rd rd RA A2 rl (rl ++ [1]) rcap c2 W (by omega) (by simp; omega) (HRL.out.stay (Ext.trans X24 hW)) (S4.stay hW)
          rw [decide_eq_false (by rintro ⟨_, _, _, h3⟩; have := congrArg List.length h3; simp at this), List.length_append] at this
          exact this
        have XX := Lib.hid X24
        clear hW4 hf4 O4 O2 X24 S4 x2 x1 z0 z1 o1 g1' b1
        go_wp2_with (first
          | (go_at_call 19; (with_reducible refine (HTO.out _).mono ?_); rintro e w4 ⟨rfl, hx⟩; have fa0 : ∀ W, Ext w4 W → W.cell? ⟨w.heap.size, 0, none⟩ = some (.int .i64 ac) := fun W h => ((M0.stay hx).stay h).cell 0; have fa1 : ∀ W, Ext w4 W → W.cell? ⟨w.heap.size, 1, none⟩ = some (.int .i64 as_) := fun W h => ((M0.stay hx).stay h).cell 1; have fa2 : ∀ W, Ext w4 W → W.cell? ⟨w.heap.size, 2, none⟩ = some (.int .i64 ak) := fun W h => ((M0.stay hx).stay h).cell 2; have fa3 : ∀ W, Ext w4 W → W.cell? ⟨w.heap.size, 3, none⟩ = some (.int .i64 ai) := fun W h => ((M0.stay hx).stay h).cell 3; have fa4 : ∀ W, Ext w4 W → W.cell? ⟨w.heap.size, 4, none⟩ = some (.int .i64 am) := fun W h => ((M0.stay hx).stay h).cell 4; have fa5 : ∀ W, Ext w4 W → W.cell? ⟨w.heap.size, 5, none⟩ = some (.string ad) := fun W h => ((M0.stay hx).stay h).cell 5; have fr0 : ∀ W, Ext w4 W → W.cell? ⟨w.heap.size + 1, 0, none⟩ = some (.int .i64 rc) := fun W h => ((M1.stay hx).stay h).cell 0; have fr1 : ∀ W, Ext w4 W → W.cell? ⟨w.heap.size + 1, 1, none⟩ = some (.int .i64 rv) := fun W h => ((M1.stay hx).stay h).cell 1; have fr2 : ∀ W, Ext w4 W → W.cell? ⟨w.heap.size + 1, 2, none⟩ = some (.string rd) := fun W h => ((M1.stay hx).stay h).cell 2; have fr3 : ∀ W, Ext w4 W → W.cell? ⟨w.heap.size + 1, 3, none⟩ = some (.slice RA rl.length rcap) := fun W h => ((M1.stay hx).stay h).cell 3; have fb0 : ∀ W, Ext w4 W → W.cell? ⟨w.heap.size + 1 + 1 + 1, 0, none⟩ = some (.int .i64 ac) := fun W h => ((M2.stay hx).stay h).cell 0; have fb1 : ∀ W, Ext w4 W → W.cell? ⟨w.heap.size + 1 + 1 + 1, 1, none⟩ = some (.int .i64 as_) := fun W h => ((M2.stay hx).stay h).cell 1; have fb2 : ∀ W, Ext w4 W → W.cell? ⟨w.heap.size + 1 + 1 + 1, 2, none⟩ = some (.int .i64 ak) := fun W h => ((M2.stay hx).stay h).cell 2; have fb3 : ∀ W, Ext w4 W → W.cell? ⟨w.heap.size + 1 + 1 + 1, 3, none⟩ = some (.int .i64 (bits BinOp.xor IntKind.i64 ai 1)) := fun W h => ((M2.stay hx).stay h).cell 3; have fb4 : ∀ W, Ext w4 W → W.cell? ⟨w.heap.size + 1 + 1 + 1, 4, none⟩ = some (.int .i64 am) := fun W h => ((M2.stay hx).stay h).cell 4; have fb5 : ∀ W, Ext w4 W → W.cell? ⟨w.heap.size + 1 + 1 + 1, 5, none⟩ = some (.string ad) := fun W h => ((M2.stay hx).stay h).cell 5; have fs0 : ∀ W, Ext w4 W → W.cell? ⟨w.heap.size + 1 + 1, 0, none⟩ = some (.int .i64 rc) := fun W h => ((M3.stay hx).stay h).cell 0; have fs1 : ∀ W, Ext w4 W → W.cell? ⟨w.heap.size + 1 + 1, 1, none⟩ = some (.int .i64 rv) := fun W h => ((M3.stay hx).stay h).cell 1; have fs2 : ∀ W, Ext w4 W → W.cell? ⟨w.heap.size + 1 + 1, 2, none⟩ = some (.string rd) := fun W h => ((M3.stay hx).stay h).cell 2; have fs3 : ∀ W, Ext w4 W → W.cell? ⟨w.heap.size + 1 + 1, 3, none⟩ = some (.slice A2 (rl.length + 1) c2) := fun W h => ((M3.stay hx).stay h).cell 3; have h4 : Ext w4 w4 := Ext.refl _; have X4 := Lib.hid hx; clear hx M0 M1 M2 M3)
          | (go_at_call 21; (with_reducible refine (HS1.out _).mono ?_); rintro e w5 ⟨rfl, hx⟩; have h5 : Ext w4 w5 := Ext.trans h4 hx; clear hx)
          | (go_at_call 22; (with_reducible refine (HSR.out _ (Ext.trans X4.out h5)).mono ?_); rintro e w6 ⟨rfl, hx⟩; have h6 : Ext w4 w6 := Ext.trans h5 hx; clear hx)
          | (go_at_call 21; (with_reducible refine (HS2.out _).mono ?_); rintro e w7 ⟨rfl, hx⟩; have h7 : Ext w4 w7 := Ext.trans h6 hx; clear hx))
        try go_ret
        exact hD.out _ _ ⟨rfl, Ext.trans (Ext.trans XX.out X4.out) h7⟩
      · go_simp
        refine hK _ _ (Frm.of_alloc _ _ _) ?_
        clear hK K
        try simp only [Act.put, List.setIfInBounds_toArray, List.set_cons_zero, List.set_cons_succ]
        refine rx_call (i := 6) rfl (by kernel_rfl) (by rfl) (fun K hK => ?_)
        refine wp_append_list (.tmp 69) (.tmp 71) 22 rfl w1.heap.size 3 (.int .i64 0) 8 Try.underlying22 info_int rfl (by decide) (.slice (some ⟨w1.heap.size, 0, none⟩) 0 0) 0 [] rfl ((World.ownsRow_made w1 #[] 0 (Nat.le_refl _) (by decide) rfl).alloc _) i64 RA rl _ rcap rfl rfl ((HRL.out.stay HB1.out).stay (Ext.trans (Ext.alloc w1 (Obj.cells #[] 3)) (Ext.alloc _ (Obj.cells #[.int .i64 1] 3)))) (fun _ => rfl) (by omega) (by simp <;> omega) ?_
        intro v1 W1 o1 g1' b1
        have x1 : Ext w1 W1 := below_grown (Ext.trans (Ext.alloc w1 (Obj.cells #[] 3)) (Ext.alloc _ (Obj.cells #[.int .i64 1] 3))) g1' (by simp <;> omega) (by simp <;> omega)
        refine hK _ _ (Frm.of_grown g1' (by intro k hk; injection hk with hk; refine Or.inr (Or.inr ?_); simp at hk; omega)) ?_
        clear hK K
        try simp only [Act.put, List.setIfInBounds_toArray, List.set_cons_zero, List.set_cons_succ]
        refine rx_call (i := 8) rfl (by kernel_rfl) (by rfl) (fun K hK => ?_)
        refine wp_append_list (.tmp 72) (.tmp 73) 22 rfl w1.heap.size 3 (.int .i64 0) 8 Try.underlying22 info_int rfl (by decide) _ _ _ rfl (o1) i64 (some ⟨w1.heap.size + 1, 0, none⟩) [1] 1 1 rfl rfl ((Sl.of_blk (Blk.new' (w1.alloc (Obj.cells #[] 3)) _ #[.int .i64 1] (w1.heap.size + 1) (by simp)) (fun j v hj => by match j, hj with | 0, hj => (simp at hj; subst hj; rfl))).grown g1' (by simp [Value.ownBlock])) (fun _ => rfl) (by simp; omega) ((x1).size) ?_
        intro v2 W2 o2 g2' b2
        have x2 : Ext w1 W2 := (x1).grown g2' ((x1).size) (fun k hk => (o1.lt k hk).1)
        refine hK _ _ (Frm.of_grown g2' (fun k hk => Or.inr (Or.inr (o1.lt k hk.symm).1))) ?_
        clear hK K g2' b2
        have O2 : W2.ownsRow w1.heap.size 3 1 v2 (rl ++ [1]).length ((rl ++ [1]).map i64) := by simpa using o2
        obtain ⟨A2, c2, rfl⟩ := own_shape O2
        clear o2
        rw [List.length_append] at O2
        simp only [List.length_cons, List.length_nil, Nat.zero_add] at O2
        try simp only [Act.put, List.setIfInBounds_toArray, List.set_cons_zero, List.set_cons_succ]
        have q0 := (K21.out.stay x2).cell 3
        have q1 := (K21.out.stay x2).frozen 3
        have q2 := ((K31.out.stay x2).far (p := ⟨w.heap.size + 1 + 1 + 1, 3, none⟩) (show w.heap.size + 1 + 1 ≠ w.heap.size + 1 + 1 + 1 by omega) (.int .i64 (bits BinOp.xor IntKind.i64 ai 1))).cell 3
        have q3 := ((K31.out.stay x2).far (p := ⟨w.heap.size + 1 + 1 + 1, 3, none⟩) (show w.heap.size + 1 + 1 ≠ w.heap.size + 1 + 1 + 1 by omega) (.int .i64 (bits BinOp.xor IntKind.i64 ai 1))).frozen 3
        refine rx_call (i := 10) rfl (by kernel_rfl) (by rfl) (fun K hK => ?_)
        go_simp
        refine hK _ _ (Frm.of_set _ _ _ (Or.inl rfl)) ?_
        clear hK K
        try simp only [Act.put, List.setIfInBounds_toArray, List.set_cons_zero, List.set_cons_succ]
        refine rx_take (i := 11) (v := ?_) rfl (by kernel_rfl) (by kernel_rfl) (by kernel_rfl) (fun _ _ _ h => h) (by rfl) ?_ ?_
        rotate_left
        · intro W hW; go_simp <;> with_reducible rfl
        try simp only [Act.put, List.setIfInBounds_toArray, List.set_cons_zero, List.set_cons_succ]
        refine rx_call (i := 12) rfl (by kernel_rfl) (by rfl) (fun K hK => ?_)
        go_simp
        refine hK _ _ (Frm.of_set _ _ _ (Or.inr (Or.inl rfl))) ?_
        clear hK K q0 q1 q2 q3
        try simp only [Act.put, List.setIfInBounds_toArray, List.set_cons_zero, List.set_cons_succ]
        refine wpAnyH_done (by kernel_rfl) ?_ _
        obtain ⟨W4, hW4⟩ : ∃ W4, W4 = (W2.setCell ⟨w.heap.size + 1 + 1 + 1, 3, none⟩ (.int .i64 (bits BinOp.xor IntKind.i64 ai 1))).setCell ⟨w.heap.size + 1 + 1, 3, none⟩ (.slice A2 (rl.length + 1) c2) := ⟨_, rfl⟩
        rw [← hW4]
        have M0 : Blk W4 w.heap.size 35 #[.int .i64 ac, .int .i64 as_, .int .i64 ak, .int .i64 ai, .int .i64 am, .string ad] := by rw [hW4]; exact ((K01.out.stay x2).far (show w.heap.size ≠ w.heap.size + 1 + 1 + 1 by omega) _).far (show w.heap.size ≠ w.heap.size + 1 + 1 by omega) _
        have M1 : Blk W4 (w.heap.size + 1) 37 #[.int .i64 rc, .int .i64 rv, .string rd, .slice RA rl.length rcap] := by rw [hW4]; exact ((K11.out.stay x2).far (show w.heap.size + 1 ≠ w.heap.size + 1 + 1 + 1 by omega) _).far (show w.heap.size + 1 ≠ w.heap.size + 1 + 1 by omega) _
        have M2 : Blk W4 (w.heap.size + 1 + 1 + 1) 35 #[.int .i64 ac, .int .i64 as_, .int .i64 ak, .int .i64 (bits BinOp.xor IntKind.i64 ai 1), .int .i64 am, .string ad] := by rw [hW4]; exact ((K21.out.stay x2).set 3 _).far (show w.heap.size + 1 + 1 + 1 ≠ w.heap.size + 1 + 1 by omega) _
        have M3 : Blk W4 (w.heap.size + 1 + 1) 37 #[.int .i64 rc, .int .i64 rv, .string rd, .slice A2 (rl.length + 1) c2] := by rw [hW4]; exact ((K31.out.stay x2).far (show w.heap.size + 1 + 1 ≠ w.heap.size + 1 + 1 + 1 by omega) _).set 3 _
        have hf4 : Frm (fun k => k = w.heap.size + 1 + 1 + 1 ∨ k = w.heap.size + 1 + 1) W2 W4 := by rw [hW4]; exact Frm.tr (Frm.of_set _ _ _ (Or.inl rfl)) (Frm.of_set _ _ _ (Or.inr rfl))
        have O4 := own_frm O2 hf4 (fun k hk => by have := (O2.lt k hk).1; rintro (e | e) <;> omega)
        have X24 : Ext w W4 := Frm.step (Ext.trans HB1.out x2) hf4 (Ext.trans HB1.out x2).size (by rintro k (e | e) <;> omega)
        have S4 : Sl i64 W4 A2 (rl ++ [1]) := by
          obtain ⟨A', c', he, h⟩ := own_view (l := rl ++ [1]) (f := i64) (by rw [List.length_append]; exact O4)
          injection he with he1 he2 he3
          subst he1
          exact h
        have HSR : Hid (∀ W, Ext W4 W → Calls Try.prog 22 #[.agg #[.int .i64 rc, .int .i64 rv, .string rd, .slice RA rl.length rcap], .agg #[.int .i64 rc, .int .i64 rv, .string rd, .slice A2 (rl.length + 1) c2]] W fun e w' => e = .returned (.bool false) ∧ Ext W w') := fun W hW => by
          have := sameReply_any rc rv rc rv rd rd RA A2 rl (rl ++ [1]) rcap c2 W (by omega) (by simp; omega) (HRL.out.stay (Ext.trans X24 hW)) (S4.stay hW)
          rw [decide_eq_false (by rintro ⟨_, _, _, h3⟩; have := congrArg List.length h3; simp at this), List.length_append] at this
          exact this
        have XX := Lib.hid X24
        clear hW4 hf4 O4 O2 X24 S4 x2 x1 z0 z1 o1 g1' b1
        go_wp2_with (first
          | (go_at_call 19; (with_reducible refine (HTO.out _).mono ?_); rintro e w4 ⟨rfl, hx⟩; have fa0 : ∀ W, Ext w4 W → W.cell? ⟨w.heap.size, 0, none⟩ = some (.int .i64 ac) := fun W h => ((M0.stay hx).stay h).cell 0; have fa1 : ∀ W, Ext w4 W → W.cell? ⟨w.heap.size, 1, none⟩ = some (.int .i64 as_) := fun W h => ((M0.stay hx).stay h).cell 1; have fa2 : ∀ W, Ext w4 W → W.cell? ⟨w.heap.size, 2, none⟩ = some (.int .i64 ak) := fun W h => ((M0.stay hx).stay h).cell 2; have fa3 : ∀ W, Ext w4 W → W.cell? ⟨w.heap.size, 3, none⟩ = some (.int .i64 ai) := fun W h => ((M0.stay hx).stay h).cell 3; have fa4 : ∀ W, Ext w4 W → W.cell? ⟨w.heap.size, 4, none⟩ = some (.int .i64 am) := fun W h => ((M0.stay hx).stay h).cell 4; have fa5 : ∀ W, Ext w4 W → W.cell? ⟨w.heap.size, 5, none⟩ = some (.string ad) := fun W h => ((M0.stay hx).stay h).cell 5; have fr0 : ∀ W, Ext w4 W → W.cell? ⟨w.heap.size + 1, 0, none⟩ = some (.int .i64 rc) := fun W h => ((M1.stay hx).stay h).cell 0; have fr1 : ∀ W, Ext w4 W → W.cell? ⟨w.heap.size + 1, 1, none⟩ = some (.int .i64 rv) := fun W h => ((M1.stay hx).stay h).cell 1; have fr2 : ∀ W, Ext w4 W → W.cell? ⟨w.heap.size + 1, 2, none⟩ = some (.string rd) := fun W h => ((M1.stay hx).stay h).cell 2; have fr3 : ∀ W, Ext w4 W → W.cell? ⟨w.heap.size + 1, 3, none⟩ = some (.slice RA rl.length rcap) := fun W h => ((M1.stay hx).stay h).cell 3; have fb0 : ∀ W, Ext w4 W → W.cell? ⟨w.heap.size + 1 + 1 + 1, 0, none⟩ = some (.int .i64 ac) := fun W h => ((M2.stay hx).stay h).cell 0; have fb1 : ∀ W, Ext w4 W → W.cell? ⟨w.heap.size + 1 + 1 + 1, 1, none⟩ = some (.int .i64 as_) := fun W h => ((M2.stay hx).stay h).cell 1; have fb2 : ∀ W, Ext w4 W → W.cell? ⟨w.heap.size + 1 + 1 + 1, 2, none⟩ = some (.int .i64 ak) := fun W h => ((M2.stay hx).stay h).cell 2; have fb3 : ∀ W, Ext w4 W → W.cell? ⟨w.heap.size + 1 + 1 + 1, 3, none⟩ = some (.int .i64 (bits BinOp.xor IntKind.i64 ai 1)) := fun W h => ((M2.stay hx).stay h).cell 3; have fb4 : ∀ W, Ext w4 W → W.cell? ⟨w.heap.size + 1 + 1 + 1, 4, none⟩ = some (.int .i64 am) := fun W h => ((M2.stay hx).stay h).cell 4; have fb5 : ∀ W, Ext w4 W → W.cell? ⟨w.heap.size + 1 + 1 + 1, 5, none⟩ = some (.string ad) := fun W h => ((M2.stay hx).stay h).cell 5; have fs0 : ∀ W, Ext w4 W → W.cell? ⟨w.heap.size + 1 + 1, 0, none⟩ = some (.int .i64 rc) := fun W h => ((M3.stay hx).stay h).cell 0; have fs1 : ∀ W, Ext w4 W → W.cell? ⟨w.heap.size + 1 + 1, 1, none⟩ = some (.int .i64 rv) := fun W h => ((M3.stay hx).stay h).cell 1; have fs2 : ∀ W, Ext w4 W → W.cell? ⟨w.heap.size + 1 + 1, 2, none⟩ = some (.string rd) := fun W h => ((M3.stay hx).stay h).cell 2; have fs3 : ∀ W, Ext w4 W → W.cell? ⟨w.heap.size + 1 + 1, 3, none⟩ = some (.slice A2 (rl.length + 1) c2) := fun W h => ((M3.stay hx).stay h).cell 3; have h4 : Ext w4 w4 := Ext.refl _; have X4 := Lib.hid hx; clear hx M0 M1 M2 M3)
          | (go_at_call 21; (with_reducible refine (HS1.out _).mono ?_); rintro e w5 ⟨rfl, hx⟩; have h5 : Ext w4 w5 := Ext.trans h4 hx; clear hx)
          | (go_at_call 22; (with_reducible refine (HSR.out _ (Ext.trans X4.out h5)).mono ?_); rintro e w6 ⟨rfl, hx⟩; have h6 : Ext w4 w6 := Ext.trans h5 hx; clear hx)
          | (go_at_call 21; (with_reducible refine (HS2.out _).mono ?_); rintro e w7 ⟨rfl, hx⟩; have h7 : Ext w4 w7 := Ext.trans h6 hx; clear hx))
        try go_ret
        exact hD.out _ _ ⟨rfl, Ext.trans (Ext.trans XX.out X4.out) h7⟩
    · go_simp
      refine hK _ _ (Frm.of_alloc _ _ _) ?_
      clear hK K
      try simp only [Act.put, List.setIfInBounds_toArray, List.set_cons_zero, List.set_cons_succ]
      refine rx_call (i := 3) rfl (by kernel_rfl) (by rfl) (fun K hK => ?_)
      go_simp
      refine hK _ _ (Frm.of_alloc _ _ _) ?_
      clear hK K
      try simp only [Act.put, List.setIfInBounds_toArray, List.set_cons_zero, List.set_cons_succ]
      refine rx_call (i := 6) rfl (by kernel_rfl) (by rfl) (fun K hK => ?_)
      refine wp_append_list (.tmp 69) (.tmp 71) 22 rfl w1.heap.size 3 (.int .i64 0) 8 Try.underlying22 info_int rfl (by decide) (.slice (some ⟨w1.heap.size + 1, 0, none⟩) 0 0) 0 [] rfl (by have h := World.ownsRow_made (base := w1.heap.size) (e := 3) (size := 1) (w1.alloc (Obj.cells #[.int .i64 1] 3)) #[] 0 (by simp) (by decide) rfl; rw [World.size_alloc] at h; exact h) i64 RA rl _ rcap rfl rfl ((HRL.out.stay HB1.out).stay (Ext.trans (Ext.alloc w1 (Obj.cells #[.int .i64 1] 3)) (Ext.alloc _ (Obj.cells #[] 3)))) (fun _ => rfl) (by omega) (by simp <;> omega) ?_
      intro v1 W1 o1 g1' b1
      have x1 : Ext w1 W1 := below_grown (Ext.trans (Ext.alloc w1 (Obj.cells #[.int .i64 1] 3)) (Ext.alloc _ (Obj.cells #[] 3))) g1' (by simp <;> omega) (by simp <;> omega)
      refine hK _ _ (Frm.of_grown g1' (by intro k hk; injection hk with hk; refine Or.inr (Or.inr ?_); simp at hk; omega)) ?_
      clear hK K
      try simp only [Act.put, List.setIfInBounds_toArray, List.set_cons_zero, List.set_cons_succ]
      refine rx_call (i := 8) rfl (by kernel_rfl) (by rfl) (fun K hK => ?_)
      refine wp_append_list (.tmp 72) (.tmp 73) 22 rfl w1.heap.size 3 (.int .i64 0) 8 Try.underlying22 info_int rfl (by decide) _ _ _ rfl (o1) i64 (some ⟨w1.heap.size, 0, none⟩) [1] 1 1 rfl rfl ((Sl.of_blk ((Blk.new w1 _ #[.int .i64 1]).alloc (Obj.cells #[] 3)) (fun j v hj => by match j, hj with | 0, hj => (simp at hj; subst hj; rfl))).grown g1' (by simp [Value.ownBlock])) (fun _ => rfl) (by simp; omega) ((x1).size) ?_
      intro v2 W2 o2 g2' b2
      have x2 : Ext w1 W2 := (x1).grown g2' ((x1).size) (fun k hk => (o1.lt k hk).1)
      refine hK _ _ (Frm.of_grown g2' (fun k hk => Or.inr (Or.inr (o1.lt k hk.symm).1))) ?_
      clear hK K g2' b2
      have O2 : W2.ownsRow w1.heap.size 3 1 v2 (rl ++ [1]).length ((rl ++ [1]).map i64) := by simpa using o2
      obtain ⟨A2, c2, rfl⟩ := own_shape O2
      clear o2
      rw [List.length_append] at O2
      simp only [List.length_cons, List.length_nil, Nat.zero_add] at O2
      try simp only [Act.put, List.setIfInBounds_toArray, List.set_cons_zero, List.set_cons_succ]
      have q0 := (K21.out.stay x2).cell 3
      have q1 := (K21.out.stay x2).frozen 3
      have q2 := ((K31.out.stay x2).far (p := ⟨w.heap.size + 1 + 1 + 1, 3, none⟩) (show w.heap.size + 1 + 1 ≠ w.heap.size + 1 + 1 + 1 by omega) (.int .i64 (bits BinOp.xor IntKind.i64 ai 1))).cell 3
      have q3 := ((K31.out.stay x2).far (p := ⟨w.heap.size + 1 + 1 + 1, 3, none⟩) (show w.heap.size + 1 + 1 ≠ w.heap.size + 1 + 1 + 1 by omega) (.int .i64 (bits BinOp.xor IntKind.i64 ai 1))).frozen 3
      refine rx_call (i := 10) rfl (by kernel_rfl) (by rfl) (fun K hK => ?_)
      go_simp
      refine hK _ _ (Frm.of_set _ _ _ (Or.inl rfl)) ?_
      clear hK K
      try simp only [Act.put, List.setIfInBounds_toArray, List.set_cons_zero, List.set_cons_succ]
      refine rx_take (i := 11) (v := ?_) rfl (by kernel_rfl) (by kernel_rfl) (by kernel_rfl) (fun _ _ _ h => h) (by rfl) ?_ ?_
      rotate_left
      · intro W hW; go_simp <;> with_reducible rfl
      try simp only [Act.put, List.setIfInBounds_toArray, List.set_cons_zero, List.set_cons_succ]
      refine rx_call (i := 12) rfl (by kernel_rfl) (by rfl) (fun K hK => ?_)
      go_simp
      refine hK _ _ (Frm.of_set _ _ _ (Or.inr (Or.inl rfl))) ?_
      clear hK K q0 q1 q2 q3
      try simp only [Act.put, List.setIfInBounds_toArray, List.set_cons_zero, List.set_cons_succ]
      refine wpAnyH_done (by kernel_rfl) ?_ _
      obtain ⟨W4, hW4⟩ : ∃ W4, W4 = (W2.setCell ⟨w.heap.size + 1 + 1 + 1, 3, none⟩ (.int .i64 (bits BinOp.xor IntKind.i64 ai 1))).setCell ⟨w.heap.size + 1 + 1, 3, none⟩ (.slice A2 (rl.length + 1) c2) := ⟨_, rfl⟩
      rw [← hW4]
      have M0 : Blk W4 w.heap.size 35 #[.int .i64 ac, .int .i64 as_, .int .i64 ak, .int .i64 ai, .int .i64 am, .string ad] := by rw [hW4]; exact ((K01.out.stay x2).far (show w.heap.size ≠ w.heap.size + 1 + 1 + 1 by omega) _).far (show w.heap.size ≠ w.heap.size + 1 + 1 by omega) _
      have M1 : Blk W4 (w.heap.size + 1) 37 #[.int .i64 rc, .int .i64 rv, .string rd, .slice RA rl.length rcap] := by rw [hW4]; exact ((K11.out.stay x2).far (show w.heap.size + 1 ≠ w.heap.size + 1 + 1 + 1 by omega) _).far (show w.heap.size + 1 ≠ w.heap.size + 1 + 1 by omega) _
      have M2 : Blk W4 (w.heap.size + 1 + 1 + 1) 35 #[.int .i64 ac, .int .i64 as_, .int .i64 ak, .int .i64 (bits BinOp.xor IntKind.i64 ai 1), .int .i64 am, .string ad] := by rw [hW4]; exact ((K21.out.stay x2).set 3 _).far (show w.heap.size + 1 + 1 + 1 ≠ w.heap.size + 1 + 1 by omega) _
      have M3 : Blk W4 (w.heap.size + 1 + 1) 37 #[.int .i64 rc, .int .i64 rv, .string rd, .slice A2 (rl.length + 1) c2] := by rw [hW4]; exact ((K31.out.stay x2).far (show w.heap.size + 1 + 1 ≠ w.heap.size + 1 + 1 + 1 by omega) _).set 3 _
      have hf4 : Frm (fun k => k = w.heap.size + 1 + 1 + 1 ∨ k = w.heap.size + 1 + 1) W2 W4 := by rw [hW4]; exact Frm.tr (Frm.of_set _ _ _ (Or.inl rfl)) (Frm.of_set _ _ _ (Or.inr rfl))
      have O4 := own_frm O2 hf4 (fun k hk => by have := (O2.lt k hk).1; rintro (e | e) <;> omega)
      have X24 : Ext w W4 := Frm.step (Ext.trans HB1.out x2) hf4 (Ext.trans HB1.out x2).size (by rintro k (e | e) <;> omega)
      have S4 : Sl i64 W4 A2 (rl ++ [1]) := by
        obtain ⟨A', c', he, h⟩ := own_view (l := rl ++ [1]) (f := i64) (by rw [List.length_append]; exact O4)
        injection he with he1 he2 he3
        subst he1
        exact h
      have HSR : Hid (∀ W, Ext W4 W → Calls Try.prog 22 #[.agg #[.int .i64 rc, .int .i64 rv, .string rd, .slice RA rl.length rcap], .agg #[.int .i64 rc, .int .i64 rv, .string rd, .slice A2 (rl.length + 1) c2]] W fun e w' => e = .returned (.bool false) ∧ Ext W w') := fun W hW => by
        have := sameReply_any rc rv rc rv rd rd RA A2 rl (rl ++ [1]) rcap c2 W (by omega) (by simp; omega) (HRL.out.stay (Ext.trans X24 hW)) (S4.stay hW)
        rw [decide_eq_false (by rintro ⟨_, _, _, h3⟩; have := congrArg List.length h3; simp at this), List.length_append] at this
        exact this
      have XX := Lib.hid X24
      clear hW4 hf4 O4 O2 X24 S4 x2 x1 z0 z1 o1 g1' b1
      go_wp2_with (first
        | (go_at_call 19; (with_reducible refine (HTO.out _).mono ?_); rintro e w4 ⟨rfl, hx⟩; have fa0 : ∀ W, Ext w4 W → W.cell? ⟨w.heap.size, 0, none⟩ = some (.int .i64 ac) := fun W h => ((M0.stay hx).stay h).cell 0; have fa1 : ∀ W, Ext w4 W → W.cell? ⟨w.heap.size, 1, none⟩ = some (.int .i64 as_) := fun W h => ((M0.stay hx).stay h).cell 1; have fa2 : ∀ W, Ext w4 W → W.cell? ⟨w.heap.size, 2, none⟩ = some (.int .i64 ak) := fun W h => ((M0.stay hx).stay h).cell 2; have fa3 : ∀ W, Ext w4 W → W.cell? ⟨w.heap.size, 3, none⟩ = some (.int .i64 ai) := fun W h => ((M0.stay hx).stay h).cell 3; have fa4 : ∀ W, Ext w4 W → W.cell? ⟨w.heap.size, 4, none⟩ = some (.int .i64 am) := fun W h => ((M0.stay hx).stay h).cell 4; have fa5 : ∀ W, Ext w4 W → W.cell? ⟨w.heap.size, 5, none⟩ = some (.string ad) := fun W h => ((M0.stay hx).stay h).cell 5; have fr0 : ∀ W, Ext w4 W → W.cell? ⟨w.heap.size + 1, 0, none⟩ = some (.int .i64 rc) := fun W h => ((M1.stay hx).stay h).cell 0; have fr1 : ∀ W, Ext w4 W → W.cell? ⟨w.heap.size + 1, 1, none⟩ = some (.int .i64 rv) := fun W h => ((M1.stay hx).stay h).cell 1; have fr2 : ∀ W, Ext w4 W → W.cell? ⟨w.heap.size + 1, 2, none⟩ = some (.string rd) := fun W h => ((M1.stay hx).stay h).cell 2; have fr3 : ∀ W, Ext w4 W → W.cell? ⟨w.heap.size + 1, 3, none⟩ = some (.slice RA rl.length rcap) := fun W h => ((M1.stay hx).stay h).cell 3; have fb0 : ∀ W, Ext w4 W → W.cell? ⟨w.heap.size + 1 + 1 + 1, 0, none⟩ = some (.int .i64 ac) := fun W h => ((M2.stay hx).stay h).cell 0; have fb1 : ∀ W, Ext w4 W → W.cell? ⟨w.heap.size + 1 + 1 + 1, 1, none⟩ = some (.int .i64 as_) := fun W h => ((M2.stay hx).stay h).cell 1; have fb2 : ∀ W, Ext w4 W → W.cell? ⟨w.heap.size + 1 + 1 + 1, 2, none⟩ = some (.int .i64 ak) := fun W h => ((M2.stay hx).stay h).cell 2; have fb3 : ∀ W, Ext w4 W → W.cell? ⟨w.heap.size + 1 + 1 + 1, 3, none⟩ = some (.int .i64 (bits BinOp.xor IntKind.i64 ai 1)) := fun W h => ((M2.stay hx).stay h).cell 3; have fb4 : ∀ W, Ext w4 W → W.cell? ⟨w.heap.size + 1 + 1 + 1, 4, none⟩ = some (.int .i64 am) := fun W h => ((M2.stay hx).stay h).cell 4; have fb5 : ∀ W, Ext w4 W → W.cell? ⟨w.heap.size + 1 + 1 + 1, 5, none⟩ = some (.string ad) := fun W h => ((M2.stay hx).stay h).cell 5; have fs0 : ∀ W, Ext w4 W → W.cell? ⟨w.heap.size + 1 + 1, 0, none⟩ = some (.int .i64 rc) := fun W h => ((M3.stay hx).stay h).cell 0; have fs1 : ∀ W, Ext w4 W → W.cell? ⟨w.heap.size + 1 + 1, 1, none⟩ = some (.int .i64 rv) := fun W h => ((M3.stay hx).stay h).cell 1; have fs2 : ∀ W, Ext w4 W → W.cell? ⟨w.heap.size + 1 + 1, 2, none⟩ = some (.string rd) := fun W h => ((M3.stay hx).stay h).cell 2; have fs3 : ∀ W, Ext w4 W → W.cell? ⟨w.heap.size + 1 + 1, 3, none⟩ = some (.slice A2 (rl.length + 1) c2) := fun W h => ((M3.stay hx).stay h).cell 3; have h4 : Ext w4 w4 := Ext.refl _; have X4 := Lib.hid hx; clear hx M0 M1 M2 M3)
        | (go_at_call 21; (with_reducible refine (HS1.out _).mono ?_); rintro e w5 ⟨rfl, hx⟩; have h5 : Ext w4 w5 := Ext.trans h4 hx; clear hx)
        | (go_at_call 22; (with_reducible refine (HSR.out _ (Ext.trans X4.out h5)).mono ?_); rintro e w6 ⟨rfl, hx⟩; have h6 : Ext w4 w6 := Ext.trans h5 hx; clear hx)
        | (go_at_call 21; (with_reducible refine (HS2.out _).mono ?_); rintro e w7 ⟨rfl, hx⟩; have h7 : Ext w4 w7 := Ext.trans h6 hx; clear hx))
      try go_ret
      exact hD.out _ _ ⟨rfl, Ext.trans (Ext.trans XX.out X4.out) h7⟩

set_option maxHeartbeats 2000000 in
theorem walk_reqParts (ac as_ ak ai am : Int) (ad : ByteArray) (rc rv : Int) (rd : ByteArray) (RA : Option Addr) (rcap : Nat) (rl : List Int) (n : Int) (w : World)
    (had : ad.size ≤ maxLen) (hr : rl.length ≤ 9223372036854775807) (hR : Sl i64 w RA rl) (hrd : rd.size ≤ 140737488351232) : Calls Try.prog 6 #[reqV ac as_ ak ai am ad, repV rc rv rd RA rl.length rcap, .int .i64 n] w fun e w' => e = .returned (.bool true) ∧ Below w.heap.size w w' := by
  by_cases hbig : 50 < rl.length ∨ 300 < ad.size
  · have HTO : Hid (∀ W, Calls Try.prog 19 #[] W fun e w' => e = .returned (.bool true) ∧ Ext W w') := told_req
    have HB : Hid (∀ o o', Ext w ((w.alloc o).alloc o')) := fun o o' => ((Below.refl _ _).alloc (Nat.le_refl _) _).alloc (by simp) _
    refine hide_post fun D hD => ?_
    unfold maxLen at had
    clear hR
    generalize rl.length = rn at *
    by_cases g1 : 50 < rn
    · go_enter Try.func6, Try.ntmps6
      go_wp2_with (go_at_call 19; (with_reducible refine (HTO.out _).mono ?_); rintro e w4 ⟨rfl, hx⟩; have X4 := Lib.hid hx; clear hx)
      try go_ret
      exact hD.out _ _ ⟨rfl, Ext.trans (HB.out _ _) X4.out⟩
    · have g2 : 300 < ad.size := by omega
      go_enter Try.func6, Try.ntmps6
      go_wp2_with (go_at_call 19; (with_reducible refine (HTO.out _).mono ?_); rintro e w4 ⟨rfl, hx⟩; have X4 := Lib.hid hx; clear hx)
      try go_ret
      exact hD.out _ _ ⟨rfl, Ext.trans (HB.out _ _) X4.out⟩
  · have g1 : ¬ 50 < rl.length := by omega
    have g2 : ¬ 300 < ad.size := by omega
    obtain ⟨m0, m1⟩ := umod_bd n 6 (by omega) (by omega)
    obtain ⟨m, hm⟩ : ∃ m, wrap64 ((IntKind.u64.wrap n).tmod 6) = m := ⟨_, rfl⟩
    rw [hm] at m0 m1
    have hcs : m = 0 ∨ m = 1 ∨ m = 2 ∨ m = 3 ∨ m = 4 ∨ m = 5 := by omega
    rcases hcs with rfl | rfl | rfl | rfl | rfl | rfl
    · exact reqParts_0 ac as_ ak ai am ad rc rv rd RA rcap rl n w had hr hR hrd g1 g2 hm
    · exact reqParts_1 ac as_ ak ai am ad rc rv rd RA rcap rl n w had hr hR hrd g1 g2 hm
    · exact reqParts_2 ac as_ ak ai am ad rc rv rd RA rcap rl n w had hr hR hrd g1 g2 hm
    · exact reqParts_3 ac as_ ak ai am ad rc rv rd RA rcap rl n w had hr hR hrd g1 g2 hm
    · exact reqParts_4 ac as_ ak ai am ad rc rv rd RA rcap rl n w had hr hR hrd g1 g2 hm
    · exact reqParts_5 ac as_ ak ai am ad rc rv rd RA rcap rl n w had hr hR hrd g1 g2 hm

theorem law_reqParts {H : Type} {enc : TypeId × Value → H} (W : World) (base : Nat) (args : Array Value) (ds : List (DataW H)) (p : List MemPlace)
    (hval : ∀ (j : Nat) t v, Try.f6.params[j]? = some t → args[j]? = some v → Value.okWide Try.prog W .any base t v)
    (hA : DataW.TrodAll enc Try.prog W 0 (fun _ => true) true Try.f6.params.toList args.toList ds p)
    (hsz : (DataW.weightsEach Try.prog Try.f6.params.toList ds).all (· ≤ reachBytes) = true) :
    Calls Try.prog 6 args W fun e W' => e = .returned (.bool true) ∧ Below W.heap.size W W' := by
  rw [Try.params6] at hA hval hsz
  obtain ⟨v0, vs0, d0, ds0, p0, q0, hargs, rfl, rfl, h0, r0⟩ := trodAll_cons hA
  obtain ⟨v1, vs1, d1, ds1, p1, q1, rfl, rfl, rfl, h1, r1⟩ := trodAll_cons r0
  obtain ⟨v2, vs2, d2, ds2, p2, q2, rfl, rfl, rfl, h2, r2⟩ := trodAll_cons r1
  obtain ⟨rfl, rfl, rfl⟩ := trodAll_nil r2
  obtain rfl : args = #[v0, v1, v2] := by cases args; simp_all
  obtain ⟨c0, s0, k0, i0, m0, x0, rfl, wc0, ws0, wk0, wi0, wm0, z0⟩ := open_req (hval 0 35 v0 rfl rfl) h0
  obtain ⟨c1, n1, x1, A1, e1, l1, rfl, wc1, wn1, z1, y1, yy1, g1, gg1⟩ := open_reply (hval 1 37 v1 rfl rfl) h1
  obtain ⟨a2, rfl, rfl, rfl, w2⟩ := open_int Try.underlying3 (hval 2 3 v2 rfl rfl) h2
  have hrch := reply_reach (hval 1 37 _ rfl rfl) h1 (j := 1) hsz rfl rfl rfl
  exact walk_reqParts c0 s0 k0 i0 m0 x0 c1 n1 x1 A1 e1 l1 a2 W z0 (Nat.le_trans y1 yy1) g1 hrch
end Go.Proofs.Ytbjekbbokhjfmaa
