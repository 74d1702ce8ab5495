/-
  The walk of the document's With.
-/
import Derived.Test.YtdjkopdgapifpaaRefWithout
namespace Go.Proofs.Ytdjkopdgapifpaa
set_option linter.unusedVariables false
set_option linter.unusedSimpArgs false
open Go.RowKit

def refWithL (ep : Int) (l : List Int) (x : Int) : Int × List Int × Int := if 1073741824 ≤ ep ∨ x ∈ l then noCh else chOk (ep + 1) (l ++ [x])

set_option maxRecDepth 8000 in
set_option maxHeartbeats 32000000 in
theorem refWith_any (ep x : Int) (A : Option Addr) (c1 : Nat) (l : List Int) (w : World) (he : -9223372036854775808 ≤ ep) (l1 : l.length ≤ 1000000) (hs : Sl i64 w A l) :
    Calls Try.prog 54 #[chV ep A l.length c1, .int .i64 x] w (ChRes w (refWithL ep l x)) := by
  refine hide_post fun D hD => ?_
  obtain ⟨w0, hw0⟩ : ∃ w0, w0 = (w.alloc (.cells #[.int .i64 ep, .slice A l.length c1] 50)).alloc (.cells #[.int .i64 0, .slice none 0 0] 50) := ⟨_, rfl⟩
  have hb0 : Ext w w0 := by rw [hw0]; exact Ext.trans (ext_al _ _) (ext_al _ _)
  have K0 : Hid (Blk w0 w.heap.size 50 #[.int .i64 ep, .slice A l.length c1]) := by (show Blk _ _ _ _); rw [hw0]; exact (Blk.new w _ _).alloc _
  have K1 : Hid (Blk w0 (w.heap.size + 1) 50 #[.int .i64 0, .slice none 0 0]) := by (show Blk _ _ _ _); rw [hw0]; exact Blk.new' _ _ _ _ (by simp)
  have HZ : Hid (w0.heap.size = w.heap.size + 2) := by (show _ = _); rw [hw0]; simp
  have HSA : Hid (∀ V, Ext w0 V → Sl i64 V A l) := fun V h => hs.stay (Ext.trans hb0 h)
  have HPL : Hid (Calls Try.prog 50 #[.agg #[.int .i64 ep, .slice A l.length c1], .int .i64 x] w0 fun e w' => e = .returned (.int .i64 (idx x l 0)) ∧ Ext w0 w') := place_any ep x A c1 l w0 (by omega) (hs.stay hb0)
  have HB0 := Lib.hid hb0
  have HW0 := Lib.hid hw0
  clear hb0 hw0 hs
  by_cases g0 : 1073741824 ≤ ep
  · have HN : Hid (refWithL ep l x = noCh) := by (show _ = _); simp [refWithL, g0]
    rw [HN.out] at hD
    clear HN HSA HPL K0 K1
    generalize l.length = n1 at *
    go_enter Try.func54, Try.ntmps54
    go_wp2
    exact bodyPost_ret (v := .tuple #[chV 0 none 0 0, .int .i64 1]) (by simp [results, Try.results54, go_sem]) rfl (hD.out _ _ (ChRes.no (Ext.trans (ext_al _ _) (ext_al _ _))))
  by_cases g1 : x ∈ l
  · have HN : Hid (refWithL ep l x = noCh) := by (show _ = _); simp [refWithL, g1]
    rw [HN.out] at hD
    have hi : 0 ≤ idx x l 0 := (idx_ge x l 0 (by omega)).2 g1
    clear HN HSA g1
    generalize idx x l 0 = q at *
    generalize l.length = n1 at *
    go_enter Try.func54, Try.ntmps54
    go_wp2_with (go_at_call 50; rw [← HW0.out]; (with_reducible refine HPL.out.mono ?_); rintro e w1 ⟨rfl, hx⟩; have b0 := (K1.out.stay hx).cell 0; have b1 := (K1.out.stay hx).cell 1; have f0 := (K1.out.stay hx).frozen 0; have f1 := (K1.out.stay hx).frozen 1; have KR := Lib.hid (K1.out.stay hx); have HX := Lib.hid hx; clear hx; simp at b0 b1)
    have KA := (KR.out.set 0 (.int .i64 0)).set 1 (.slice none 0 0)
    have hcA := KA.cell 0
    have hcB := KA.cell 1
    simp at hcA hcB
    have hE := hD.out (.returned (.tuple #[chV 0 none 0 0, .int .i64 1])) _ (ChRes.no (Frm.step (Ext.trans HB0.out HX.out) (Frm.tr (Frm.of_set (s := fun k => k = w.heap.size + 1) w1 ⟨w.heap.size + 1, 0, none⟩ (.int .i64 0) rfl) (Frm.of_set _ ⟨w.heap.size + 1, 1, none⟩ (.slice none 0 0) rfl)) (Ext.trans HB0.out HX.out).size (by rintro k e; omega)))
    exact bodyPost_ret (v := .tuple #[chV 0 none 0 0, .int .i64 1]) (by simp [results, Try.results54, go_sem, hcA, hcB]) rfl hE
  have HN : Hid (refWithL ep l x = chOk (ep + 1) (l ++ [x])) := by (show _ = _); simp [refWithL, g0, g1]
  rw [HN.out] at hD
  have hi : idx x l 0 = -1 := idx_no g1
  have HPL1 : Hid (Calls Try.prog 50 #[.agg #[.int .i64 ep, .slice A l.length c1], .int .i64 x] w0 fun e w' => e = .returned (.int .i64 (-1)) ∧ Ext w0 w') := by rw [← hi]; exact HPL.out
  clear HN hi HPL g1
  go_enter Try.func54, Try.ntmps54
  go_wp2_with (go_at_call 50; rw [← HW0.out]; (with_reducible refine HPL1.out.mono ?_); rintro e w1 ⟨rfl, hx⟩; have HX := Lib.hid hx; clear hx)
  obtain ⟨wd, hwd⟩ : ∃ wd, wd = w1.drew := ⟨_, rfl⟩
  have h0d : Ext w0 wd := by rw [hwd]; exact Ext.drewR HX.out
  refine rz_begin_to (fun a' W' => ∃ s7 s8 s9 s10 s11 s12 s13 s14 s15 s16 s17 s18 s19 s20 s21 s22 s23 s24 s25 s26 s27 gP A2 cap2, a' = { tmps := #[chV ep A l.length c1, .int .i64 x, .pointer (some ⟨w.heap.size, 0, none⟩), undef, .pointer (some ⟨w.heap.size + 1, 0, none⟩), .int .i64 0, .pointer (some ⟨gP, 0, none⟩), s7, s8, s9, s10, s11, s12, s13, s14, s15, s16, s17, s18, s19, s20, s21, s22, s23, s24, s25, s26, s27, undef, undef, undef, undef, undef], defers := [] } ∧ Ext wd W' ∧ wd.heap.size ≤ gP ∧ Blk W' gP 50 #[.int .i64 (ep + 1), .slice A2 (l.length + 1) cap2] ∧ W'.ownsRow wd.heap.size 3 1 (.slice A2 (l.length + 1) cap2) (l.length + 1) ((l ++ [x]).map i64)) (fun k => wd.heap.size ≤ k) [12] (by kernel_rfl) ?_ ?_
  rotate_left
  · rw [← hwd]
    have kC := K0.out.stay h0d
    have s0 : ∀ W, Frm (fun k => wd.heap.size ≤ k) wd W → W.cell? ⟨w.heap.size, 0, none⟩ = some (.int .i64 ep) := fun W h => (kC.frm h (by have := kC.lt; omega)).cell 0
    have s1 : ∀ W, Frm (fun k => wd.heap.size ≤ k) wd W → W.cell? ⟨w.heap.size, 1, none⟩ = some (.slice A l.length c1) := fun W h => (kC.frm h (by have := kC.lt; omega)).cell 1
    have HSL : Hid (∀ W, Ext wd W → Sl i64 W A l) := fun W h => HSA.out W (Ext.trans h0d h)
    have XD : Hid (Ext wd wd) := Ext.refl _
    have E0 : Hid (Frm (fun k => wd.heap.size ≤ k) wd wd) := Frm.refl _ _
    have hwr : IntKind.i64.wrap (ep + 1) = ep + 1 := IntWalk.i64_in _ (by omega)
    clear hwd kC HSA
    refine rz_take [1, 2, 10, 12] (i := 0) (v := ?_) rfl (by kernel_rfl) (by kernel_rfl) (by kernel_rfl) (by kernel_rfl) (by kernel_rfl) (by kernel_rfl) (fun _ _ _ h => h) (by rfl) ?_ ?_
    rotate_left
    · intro W hW; have hW0 := Frm.tr E0.out hW; clear hW; go_simp <;> with_reducible rfl
    try simp only [Act.put, List.setIfInBounds_toArray, List.set_cons_zero, List.set_cons_succ]
    refine rz_take [2, 10, 12] (i := 1) (v := ?_) rfl (by kernel_rfl) (by kernel_rfl) (by kernel_rfl) (by kernel_rfl) (by kernel_rfl) (by kernel_rfl) (fun _ _ _ h => h) (by rfl) ?_ ?_
    rotate_left
    · intro W hW; have hW0 := Frm.tr E0.out hW; clear hW; go_simp <;> with_reducible rfl
    try simp only [Act.put, List.setIfInBounds_toArray, List.set_cons_zero, List.set_cons_succ]
    refine rz_take [10, 12] (i := 2) (v := ?_) rfl (by kernel_rfl) (by kernel_rfl) (by kernel_rfl) (by kernel_rfl) (by kernel_rfl) (by kernel_rfl) (fun _ _ _ h => h) (by rfl) ?_ ?_
    rotate_left
    · intro W hW; have hW0 := Frm.tr E0.out hW; clear hW; go_simp <;> with_reducible rfl
    try simp only [Act.put, List.setIfInBounds_toArray, List.set_cons_zero, List.set_cons_succ]
    refine rz_take [5, 6, 9, 10, 12] (i := 4) (v := ?_) rfl (by kernel_rfl) (by kernel_rfl) (by kernel_rfl) (by kernel_rfl) (by kernel_rfl) (by kernel_rfl) (fun _ _ _ h => h) (by rfl) ?_ ?_
    rotate_left
    · intro W hW; have hW0 := Frm.tr E0.out hW; clear hW; go_simp <;> with_reducible rfl
    try simp only [Act.put, List.setIfInBounds_toArray, List.set_cons_zero, List.set_cons_succ]
    refine rz_take [6, 9, 10, 12] (i := 5) (v := ?_) rfl (by kernel_rfl) (by kernel_rfl) (by kernel_rfl) (by kernel_rfl) (by kernel_rfl) (by kernel_rfl) (fun _ _ _ h => h) (by rfl) ?_ ?_
    rotate_left
    · intro W hW; have hW0 := Frm.tr E0.out hW; clear hW; go_simp <;> with_reducible rfl
    try simp only [Act.put, List.setIfInBounds_toArray, List.set_cons_zero, List.set_cons_succ]
    refine rz_take [8, 9, 10, 12] (i := 7) (v := ?_) rfl (by kernel_rfl) (by kernel_rfl) (by kernel_rfl) (by kernel_rfl) (by kernel_rfl) (by kernel_rfl) (fun _ _ _ h => h) (by rfl) ?_ ?_
    rotate_left
    · intro W hW; have hW0 := Frm.tr E0.out hW; clear hW; go_simp <;> with_reducible rfl
    try simp only [Act.put, List.setIfInBounds_toArray, List.set_cons_zero, List.set_cons_succ]
    refine rz_three (i := 3) (j := 8) (k := 11) rfl rfl rfl (by kernel_rfl) (by rfl) (by rfl) (by rfl) (fun K hK => ?_) (fun K hK => ?_) (fun K hK => ?_)
    · go_simp
      refine hK _ _ (Frm.of_alloc _ _ _) ?_; clear hK K
      obtain ⟨W1, hw1⟩ : ∃ W1, W1 = wd.alloc (Obj.cells #[] 3) := ⟨_, rfl⟩
      have X1 : Hid (Ext wd W1) := (by (show Ext _ _); rw [hw1]; exact Ext.trans XD.out (ext_al _ _))
      have hz1 : wd.heap.size ≤ wd.heap.size := XD.out.size
      have o_1 : Hid (W1.ownsRow wd.heap.size 3 1 (.slice (some ⟨wd.heap.size, 0, none⟩) 0 0) 0 []) := (by (show World.ownsRow _ _ _ _ _ _ _); rw [hw1]; exact World.ownsRow_made wd #[] 0 hz1 (by decide) rfl)
      rw [← hw1]
      clear hw1
      try simp only [Act.put, List.setIfInBounds_toArray, List.set_cons_zero, List.set_cons_succ]
      refine rz_three (i := 6) (j := 8) (k := 11) rfl rfl rfl (by kernel_rfl) (by rfl) (by rfl) (by rfl) (fun K hK => ?_) (fun K hK => ?_) (fun K hK => ?_)
      · refine wp_append_list (.tmp 20) (.tmp 22) 32 rfl wd.heap.size 3 (.int .i64 0) 8 Try.underlying32 info_int rfl (by decide) (.slice (some ⟨wd.heap.size, 0, none⟩) 0 0) (0) ([]) rfl o_1.out i64 A l l.length c1 rfl rfl (HSL.out _ X1.out) (fun _ => rfl) (by simp <;> omega) X1.out.size ?_
        intro v2 W2 oo2 gg2 bb2
        refine hK _ _ (Frm.of_grown gg2 (fun k hk => (o_1.out.lt k hk.symm).1)) ?_
        clear hK K
        have X2 : Hid (Ext wd W2) := X1.out.grown gg2 X1.out.size (fun k hk => (o_1.out.lt k hk).1)
        have o_2 : Hid (W2.ownsRow wd.heap.size 3 1 v2 l.length (l.map i64)) := (by (show World.ownsRow _ _ _ _ _ _ _); simpa using oo2)
        clear oo2 gg2 bb2
        try simp only [Act.put, List.setIfInBounds_toArray, List.set_cons_zero, List.set_cons_succ]
        refine rz_two (i := 8) (j := 11) rfl rfl (by kernel_rfl) (by rfl) (by rfl) (fun K hK => ?_) (fun K hK => ?_)
        · go_simp
          refine hK _ _ (Frm.of_alloc _ _ _) ?_; clear hK K
          obtain ⟨W3, hw3⟩ : ∃ W3, W3 = W2.alloc (Obj.cells #[.int .i64 x] 3) := ⟨_, rfl⟩
          have X3 : Hid (Ext wd W3) := (by (show Ext _ _); rw [hw3]; exact Ext.trans X2.out (ext_al _ _))
          have hz3 : wd.heap.size ≤ W2.heap.size := X2.out.size
          have o_3 : Hid (W3.ownsRow wd.heap.size 3 1 (v2) (l.length) (l.map i64)) := (by (show World.ownsRow _ _ _ _ _ _ _); rw [hw3]; exact o_2.out.alloc _)
          have b8_3 : Hid (Blk W3 (W2.heap.size) 3 #[.int .i64 x]) := (by (show Blk _ _ _ _); rw [hw3]; exact Blk.new _ _ _)
          have n_3 : Hid (some (W2.heap.size) ≠ (v2 : Value).ownBlock) := fun e => by have := (o_2.out.lt _ e.symm).2; omega
          rw [← hw3]
          clear hw3
          try simp only [Act.put, List.setIfInBounds_toArray, List.set_cons_zero, List.set_cons_succ]
          refine rz_two (i := 9) (j := 11) rfl rfl (by kernel_rfl) (by rfl) (by rfl) (fun K hK => ?_) (fun K hK => ?_)
          · refine wp_append_list (.tmp 23) (.tmp 25) 32 rfl wd.heap.size 3 (.int .i64 0) 8 Try.underlying32 info_int rfl (by decide) (v2) (l.length) (l.map i64) rfl o_3.out i64 (some ⟨W2.heap.size, 0, none⟩) [x] 1 1 rfl rfl (Sl.of_blk b8_3.out (fun j v hj => by match j, hj with | 0, hj => (simp at hj; subst hj; rfl))) (fun _ => rfl) (by simp <;> omega) X3.out.size ?_
            intro v4 W4 oo4 gg4 bb4
            refine hK _ _ (Frm.of_grown gg4 (fun k hk => (o_3.out.lt k hk.symm).1)) ?_
            clear hK K
            have X4 : Hid (Ext wd W4) := X3.out.grown gg4 X3.out.size (fun k hk => (o_3.out.lt k hk).1)
            have o_4 : Hid (W4.ownsRow wd.heap.size 3 1 v4 (l.length + 1) ((l ++ [x]).map i64)) := (by (show World.ownsRow _ _ _ _ _ _ _); simpa using oo4)
            clear oo4 gg4 bb4
            obtain ⟨A2, cap2, hv2⟩ := own_shape o_4.out
            subst hv2
            try simp only [Act.put, List.setIfInBounds_toArray, List.set_cons_zero, List.set_cons_succ]
            refine rz_take [12] (i := 10) (v := ?_) rfl (by kernel_rfl) (by kernel_rfl) (by kernel_rfl) (by kernel_rfl) (by kernel_rfl) (by kernel_rfl) (fun _ _ _ h => h) (by rfl) ?_ ?_
            rotate_left
            · intro W hW; go_simp <;> with_reducible rfl
            try simp only [Act.put, List.setIfInBounds_toArray, List.set_cons_zero, List.set_cons_succ]
            refine rz_call (i := 11) rfl (by kernel_rfl) (by rfl) (fun K hK => ?_)
            go_simp
            refine hK _ _ (Frm.of_alloc _ _ _) ?_; clear hK K
            obtain ⟨W5, hw5⟩ : ∃ W5, W5 = W4.alloc (Obj.cells #[.int .i64 0, .slice none 0 0] 50) := ⟨_, rfl⟩
            have X5 : Hid (Ext wd W5) := (by (show Ext _ _); rw [hw5]; exact Ext.trans X4.out (ext_al _ _))
            have hz5 : wd.heap.size ≤ W4.heap.size := X4.out.size
            have o_5 : Hid (W5.ownsRow wd.heap.size 3 1 (.slice A2 (l.length + 1) cap2) ((l.length + 1)) ((l ++ [x]).map i64)) := (by (show World.ownsRow _ _ _ _ _ _ _); rw [hw5]; exact o_4.out.alloc _)
            have b11_5 : Hid (Blk W5 (W4.heap.size) 50 #[.int .i64 0, .slice none 0 0]) := (by (show Blk _ _ _ _); rw [hw5]; exact Blk.new _ _ _)
            rw [← hw5]
            clear hw5
            try simp only [Act.put, List.setIfInBounds_toArray, List.set_cons_zero, List.set_cons_succ]
            refine rz_last (i := 12) rfl (by kernel_rfl) (by rfl) (by rfl) (fun K hK => ?_)
            have hp0 := b11_5.out.cell 0
            have hp1 := b11_5.out.cell 1
            have hp2 := b11_5.out.frozen 0
            have hp3 := b11_5.out.frozen 1
            simp at hp0 hp1
            go_simp
            refine hK _ _ ?_; clear hK K hp0 hp1 hp2 hp3
            try simp only [Act.put, List.setIfInBounds_toArray, List.set_cons_zero, List.set_cons_succ]
            refine rz_done (by kernel_rfl) ?_ _
            have hF : Frm (fun k => k = W4.heap.size) W5 ((W5.setCell ⟨W4.heap.size, 0, none⟩ (.int .i64 (ep + 1))).setCell ⟨W4.heap.size, 1, none⟩ (.slice A2 (l.length + 1) cap2)) := Frm.tr (Frm.of_set _ _ _ rfl) (Frm.of_set _ _ _ rfl)
            have hle : wd.heap.size ≤ W4.heap.size := by omega
            have kP := ((b11_5.out.set 0 (.int .i64 (ep + 1))).set 1 (.slice A2 (l.length + 1) cap2))
            exact ⟨_, _, _, _, _, _, _, _, _, _, _, _, _, _, _, _, _, _, _, _, _, _, A2, cap2, rfl, Below.trans X5.out (hF.below X5.out.size (by rintro k e; omega)), hle, by simpa using kP, own_frm o_5.out hF (fun k hk e => own_type o_5.out b11_5.out (by decide) k hk e)⟩
          · go_simp
            refine hK _ _ (Frm.of_alloc _ _ _) ?_; clear hK K
            obtain ⟨W6, hw6⟩ : ∃ W6, W6 = W3.alloc (Obj.cells #[.int .i64 0, .slice none 0 0] 50) := ⟨_, rfl⟩
            have X6 : Hid (Ext wd W6) := (by (show Ext _ _); rw [hw6]; exact Ext.trans X3.out (ext_al _ _))
            have hz6 : wd.heap.size ≤ W3.heap.size := X3.out.size
            have b8_6 : Hid (Blk W6 (W2.heap.size) 3 #[.int .i64 x]) := (by (show Blk _ _ _ _); rw [hw6]; exact b8_3.out.alloc _)
            have o_6 : Hid (W6.ownsRow wd.heap.size 3 1 (v2) (l.length) (l.map i64)) := (by (show World.ownsRow _ _ _ _ _ _ _); rw [hw6]; exact o_3.out.alloc _)
            have b11_6 : Hid (Blk W6 (W3.heap.size) 50 #[.int .i64 0, .slice none 0 0]) := (by (show Blk _ _ _ _); rw [hw6]; exact Blk.new _ _ _)
            rw [← hw6]
            clear hw6
            try simp only [Act.put, List.setIfInBounds_toArray, List.set_cons_zero, List.set_cons_succ]
            refine rz_call (i := 9) rfl (by kernel_rfl) (by rfl) (fun K hK => ?_)
            refine wp_append_list (.tmp 23) (.tmp 25) 32 rfl wd.heap.size 3 (.int .i64 0) 8 Try.underlying32 info_int rfl (by decide) (v2) (l.length) (l.map i64) rfl o_6.out i64 (some ⟨W2.heap.size, 0, none⟩) [x] 1 1 rfl rfl (Sl.of_blk b8_6.out (fun j v hj => by match j, hj with | 0, hj => (simp at hj; subst hj; rfl))) (fun _ => rfl) (by simp <;> omega) X6.out.size ?_
            intro v7 W7 oo7 gg7 bb7
            refine hK _ _ (Frm.of_grown gg7 (fun k hk => (o_6.out.lt k hk.symm).1)) ?_
            clear hK K
            have X7 : Hid (Ext wd W7) := X6.out.grown gg7 X6.out.size (fun k hk => (o_6.out.lt k hk).1)
            have o_7 : Hid (W7.ownsRow wd.heap.size 3 1 v7 (l.length + 1) ((l ++ [x]).map i64)) := (by (show World.ownsRow _ _ _ _ _ _ _); simpa using oo7)
            have b11_7 : Hid (Blk W7 (W3.heap.size) 50 #[.int .i64 0, .slice none 0 0]) := b11_6.out.grown gg7 (fun e => own_type o_6.out b11_6.out (by decide) _ e.symm rfl)
            clear oo7 gg7 bb7
            obtain ⟨A2, cap2, hv2⟩ := own_shape o_7.out
            subst hv2
            try simp only [Act.put, List.setIfInBounds_toArray, List.set_cons_zero, List.set_cons_succ]
            refine rz_take [12] (i := 10) (v := ?_) rfl (by kernel_rfl) (by kernel_rfl) (by kernel_rfl) (by kernel_rfl) (by kernel_rfl) (by kernel_rfl) (fun _ _ _ h => h) (by rfl) ?_ ?_
            rotate_left
            · intro W hW; go_simp <;> with_reducible rfl
            try simp only [Act.put, List.setIfInBounds_toArray, List.set_cons_zero, List.set_cons_succ]
            refine rz_last (i := 12) rfl (by kernel_rfl) (by rfl) (by rfl) (fun K hK => ?_)
            have hp0 := b11_7.out.cell 0
            have hp1 := b11_7.out.cell 1
            have hp2 := b11_7.out.frozen 0
            have hp3 := b11_7.out.frozen 1
            simp at hp0 hp1
            go_simp
            refine hK _ _ ?_; clear hK K hp0 hp1 hp2 hp3
            try simp only [Act.put, List.setIfInBounds_toArray, List.set_cons_zero, List.set_cons_succ]
            refine rz_done (by kernel_rfl) ?_ _
            have hF : Frm (fun k => k = W3.heap.size) W7 ((W7.setCell ⟨W3.heap.size, 0, none⟩ (.int .i64 (ep + 1))).setCell ⟨W3.heap.size, 1, none⟩ (.slice A2 (l.length + 1) cap2)) := Frm.tr (Frm.of_set _ _ _ rfl) (Frm.of_set _ _ _ rfl)
            have hle : wd.heap.size ≤ W3.heap.size := by omega
            have kP := ((b11_7.out.set 0 (.int .i64 (ep + 1))).set 1 (.slice A2 (l.length + 1) cap2))
            exact ⟨_, _, _, _, _, _, _, _, _, _, _, _, _, _, _, _, _, _, _, _, _, _, A2, cap2, rfl, Below.trans X7.out (hF.below X7.out.size (by rintro k e; omega)), hle, by simpa using kP, own_frm o_7.out hF (fun k hk e => own_type o_7.out b11_7.out (by decide) k hk e)⟩
        · go_simp
          refine hK _ _ (Frm.of_alloc _ _ _) ?_; clear hK K
          obtain ⟨W8, hw8⟩ : ∃ W8, W8 = W2.alloc (Obj.cells #[.int .i64 0, .slice none 0 0] 50) := ⟨_, rfl⟩
          have X8 : Hid (Ext wd W8) := (by (show Ext _ _); rw [hw8]; exact Ext.trans X2.out (ext_al _ _))
          have hz8 : wd.heap.size ≤ W2.heap.size := X2.out.size
          have o_8 : Hid (W8.ownsRow wd.heap.size 3 1 (v2) (l.length) (l.map i64)) := (by (show World.ownsRow _ _ _ _ _ _ _); rw [hw8]; exact o_2.out.alloc _)
          have b11_8 : Hid (Blk W8 (W2.heap.size) 50 #[.int .i64 0, .slice none 0 0]) := (by (show Blk _ _ _ _); rw [hw8]; exact Blk.new _ _ _)
          rw [← hw8]
          clear hw8
          try simp only [Act.put, List.setIfInBounds_toArray, List.set_cons_zero, List.set_cons_succ]
          refine rz_call (i := 8) rfl (by kernel_rfl) (by rfl) (fun K hK => ?_)
          go_simp
          refine hK _ _ (Frm.of_alloc _ _ _) ?_; clear hK K
          obtain ⟨W9, hw9⟩ : ∃ W9, W9 = W8.alloc (Obj.cells #[.int .i64 x] 3) := ⟨_, rfl⟩
          have X9 : Hid (Ext wd W9) := (by (show Ext _ _); rw [hw9]; exact Ext.trans X8.out (ext_al _ _))
          have hz9 : wd.heap.size ≤ W8.heap.size := X8.out.size
          have b11_9 : Hid (Blk W9 (W2.heap.size) 50 #[.int .i64 0, .slice none 0 0]) := (by (show Blk _ _ _ _); rw [hw9]; exact b11_8.out.alloc _)
          have o_9 : Hid (W9.ownsRow wd.heap.size 3 1 (v2) (l.length) (l.map i64)) := (by (show World.ownsRow _ _ _ _ _ _ _); rw [hw9]; exact o_8.out.alloc _)
          have b8_9 : Hid (Blk W9 (W8.heap.size) 3 #[.int .i64 x]) := (by (show Blk _ _ _ _); rw [hw9]; exact Blk.new _ _ _)
          have n_9 : Hid (some (W8.heap.size) ≠ (v2 : Value).ownBlock) := fun e => by have := (o_8.out.lt _ e.symm).2; omega
          rw [← hw9]
          clear hw9
          try simp only [Act.put, List.setIfInBounds_toArray, List.set_cons_zero, List.set_cons_succ]
          refine rz_call (i := 9) rfl (by kernel_rfl) (by rfl) (fun K hK => ?_)
          refine wp_append_list (.tmp 23) (.tmp 25) 32 rfl wd.heap.size 3 (.int .i64 0) 8 Try.underlying32 info_int rfl (by decide) (v2) (l.length) (l.map i64) rfl o_9.out i64 (some ⟨W8.heap.size, 0, none⟩) [x] 1 1 rfl rfl (Sl.of_blk b8_9.out (fun j v hj => by match j, hj with | 0, hj => (simp at hj; subst hj; rfl))) (fun _ => rfl) (by simp <;> omega) X9.out.size ?_
          intro v10 W10 oo10 gg10 bb10
          refine hK _ _ (Frm.of_grown gg10 (fun k hk => (o_9.out.lt k hk.symm).1)) ?_
          clear hK K
          have X10 : Hid (Ext wd W10) := X9.out.grown gg10 X9.out.size (fun k hk => (o_9.out.lt k hk).1)
          have o_10 : Hid (W10.ownsRow wd.heap.size 3 1 v10 (l.length + 1) ((l ++ [x]).map i64)) := (by (show World.ownsRow _ _ _ _ _ _ _); simpa using oo10)
          have b11_10 : Hid (Blk W10 (W2.heap.size) 50 #[.int .i64 0, .slice none 0 0]) := b11_9.out.grown gg10 (fun e => own_type o_9.out b11_9.out (by decide) _ e.symm rfl)
          clear oo10 gg10 bb10
          obtain ⟨A2, cap2, hv2⟩ := own_shape o_10.out
          subst hv2
          try simp only [Act.put, List.setIfInBounds_toArray, List.set_cons_zero, List.set_cons_succ]
          refine rz_take [12] (i := 10) (v := ?_) rfl (by kernel_rfl) (by kernel_rfl) (by kernel_rfl) (by kernel_rfl) (by kernel_rfl) (by kernel_rfl) (fun _ _ _ h => h) (by rfl) ?_ ?_
          rotate_left
          · intro W hW; go_simp <;> with_reducible rfl
          try simp only [Act.put, List.setIfInBounds_toArray, List.set_cons_zero, List.set_cons_succ]
          refine rz_last (i := 12) rfl (by kernel_rfl) (by rfl) (by rfl) (fun K hK => ?_)
          have hp0 := b11_10.out.cell 0
          have hp1 := b11_10.out.cell 1
          have hp2 := b11_10.out.frozen 0
          have hp3 := b11_10.out.frozen 1
          simp at hp0 hp1
          go_simp
          refine hK _ _ ?_; clear hK K hp0 hp1 hp2 hp3
          try simp only [Act.put, List.setIfInBounds_toArray, List.set_cons_zero, List.set_cons_succ]
          refine rz_done (by kernel_rfl) ?_ _
          have hF : Frm (fun k => k = W2.heap.size) W10 ((W10.setCell ⟨W2.heap.size, 0, none⟩ (.int .i64 (ep + 1))).setCell ⟨W2.heap.size, 1, none⟩ (.slice A2 (l.length + 1) cap2)) := Frm.tr (Frm.of_set _ _ _ rfl) (Frm.of_set _ _ _ rfl)
          have hle : wd.heap.size ≤ W2.heap.size := by omega
          have kP := ((b11_10.out.set 0 (.int .i64 (ep + 1))).set 1 (.slice A2 (l.length + 1) cap2))
          exact ⟨_, _, _, _, _, _, _, _, _, _, _, _, _, _, _, _, _, _, _, _, _, _, A2, cap2, rfl, Below.trans X10.out (hF.below X10.out.size (by rintro k e; omega)), hle, by simpa using kP, own_frm o_10.out hF (fun k hk e => own_type o_10.out b11_10.out (by decide) k hk e)⟩
      · go_simp
        refine hK _ _ (Frm.of_alloc _ _ _) ?_; clear hK K
        obtain ⟨W11, hw11⟩ : ∃ W11, W11 = W1.alloc (Obj.cells #[.int .i64 x] 3) := ⟨_, rfl⟩
        have X11 : Hid (Ext wd W11) := (by (show Ext _ _); rw [hw11]; exact Ext.trans X1.out (ext_al _ _))
        have hz11 : wd.heap.size ≤ W1.heap.size := X1.out.size
        have o_11 : Hid (W11.ownsRow wd.heap.size 3 1 (.slice (some ⟨wd.heap.size, 0, none⟩) 0 0) (0) ([])) := (by (show World.ownsRow _ _ _ _ _ _ _); rw [hw11]; exact o_1.out.alloc _)
        have b8_11 : Hid (Blk W11 (W1.heap.size) 3 #[.int .i64 x]) := (by (show Blk _ _ _ _); rw [hw11]; exact Blk.new _ _ _)
        have n_11 : Hid (some (W1.heap.size) ≠ (.slice (some ⟨wd.heap.size, 0, none⟩) 0 0 : Value).ownBlock) := fun e => by have := (o_1.out.lt _ e.symm).2; omega
        rw [← hw11]
        clear hw11
        try simp only [Act.put, List.setIfInBounds_toArray, List.set_cons_zero, List.set_cons_succ]
        refine rz_two (i := 6) (j := 11) rfl rfl (by kernel_rfl) (by rfl) (by rfl) (fun K hK => ?_) (fun K hK => ?_)
        · refine wp_append_list (.tmp 20) (.tmp 22) 32 rfl wd.heap.size 3 (.int .i64 0) 8 Try.underlying32 info_int rfl (by decide) (.slice (some ⟨wd.heap.size, 0, none⟩) 0 0) (0) ([]) rfl o_11.out i64 A l l.length c1 rfl rfl (HSL.out _ X11.out) (fun _ => rfl) (by simp <;> omega) X11.out.size ?_
          intro v12 W12 oo12 gg12 bb12
          refine hK _ _ (Frm.of_grown gg12 (fun k hk => (o_11.out.lt k hk.symm).1)) ?_
          clear hK K
          have X12 : Hid (Ext wd W12) := X11.out.grown gg12 X11.out.size (fun k hk => (o_11.out.lt k hk).1)
          have o_12 : Hid (W12.ownsRow wd.heap.size 3 1 v12 l.length (l.map i64)) := (by (show World.ownsRow _ _ _ _ _ _ _); simpa using oo12)
          have b8_12 : Hid (Blk W12 (W1.heap.size) 3 #[.int .i64 x]) := b8_11.out.grown gg12 n_11.out
          have n_12 : Hid (some (W1.heap.size) ≠ v12.ownBlock) := fun e => by
            rcases bb12 with h | ⟨k', h, hk'⟩
            · exact n_11.out (e.trans h)
            · have h5 := e.trans h; injection h5 with h5; have := b8_11.out.lt; omega
          clear oo12 gg12 bb12
          try simp only [Act.put, List.setIfInBounds_toArray, List.set_cons_zero, List.set_cons_succ]
          refine rz_two (i := 9) (j := 11) rfl rfl (by kernel_rfl) (by rfl) (by rfl) (fun K hK => ?_) (fun K hK => ?_)
          · refine wp_append_list (.tmp 23) (.tmp 25) 32 rfl wd.heap.size 3 (.int .i64 0) 8 Try.underlying32 info_int rfl (by decide) (v12) (l.length) (l.map i64) rfl o_12.out i64 (some ⟨W1.heap.size, 0, none⟩) [x] 1 1 rfl rfl (Sl.of_blk b8_12.out (fun j v hj => by match j, hj with | 0, hj => (simp at hj; subst hj; rfl))) (fun _ => rfl) (by simp <;> omega) X12.out.size ?_
            intro v13 W13 oo13 gg13 bb13
            refine hK _ _ (Frm.of_grown gg13 (fun k hk => (o_12.out.lt k hk.symm).1)) ?_
            clear hK K
            have X13 : Hid (Ext wd W13) := X12.out.grown gg13 X12.out.size (fun k hk => (o_12.out.lt k hk).1)
            have o_13 : Hid (W13.ownsRow wd.heap.size 3 1 v13 (l.length + 1) ((l ++ [x]).map i64)) := (by (show World.ownsRow _ _ _ _ _ _ _); simpa using oo13)
            clear oo13 gg13 bb13
            obtain ⟨A2, cap2, hv2⟩ := own_shape o_13.out
            subst hv2
            try simp only [Act.put, List.setIfInBounds_toArray, List.set_cons_zero, List.set_cons_succ]
            refine rz_take [12] (i := 10) (v := ?_) rfl (by kernel_rfl) (by kernel_rfl) (by kernel_rfl) (by kernel_rfl) (by kernel_rfl) (by kernel_rfl) (fun _ _ _ h => h) (by rfl) ?_ ?_
            rotate_left
            · intro W hW; go_simp <;> with_reducible rfl
            try simp only [Act.put, List.setIfInBounds_toArray, List.set_cons_zero, List.set_cons_succ]
            refine rz_call (i := 11) rfl (by kernel_rfl) (by rfl) (fun K hK => ?_)
            go_simp
            refine hK _ _ (Frm.of_alloc _ _ _) ?_; clear hK K
            obtain ⟨W14, hw14⟩ : ∃ W14, W14 = W13.alloc (Obj.cells #[.int .i64 0, .slice none 0 0] 50) := ⟨_, rfl⟩
            have X14 : Hid (Ext wd W14) := (by (show Ext _ _); rw [hw14]; exact Ext.trans X13.out (ext_al _ _))
            have hz14 : wd.heap.size ≤ W13.heap.size := X13.out.size
            have o_14 : Hid (W14.ownsRow wd.heap.size 3 1 (.slice A2 (l.length + 1) cap2) ((l.length + 1)) ((l ++ [x]).map i64)) := (by (show World.ownsRow _ _ _ _ _ _ _); rw [hw14]; exact o_13.out.alloc _)
            have b11_14 : Hid (Blk W14 (W13.heap.size) 50 #[.int .i64 0, .slice none 0 0]) := (by (show Blk _ _ _ _); rw [hw14]; exact Blk.new _ _ _)
            rw [← hw14]
            clear hw14
            try simp only [Act.put, List.setIfInBounds_toArray, List.set_cons_zero, List.set_cons_succ]
            refine rz_last (i := 12) rfl (by kernel_rfl) (by rfl) (by rfl) (fun K hK => ?_)
            have hp0 := b11_14.out.cell 0
            have hp1 := b11_14.out.cell 1
            have hp2 := b11_14.out.frozen 0
            have hp3 := b11_14.out.frozen 1
            simp at hp0 hp1
            go_simp
            refine hK _ _ ?_; clear hK K hp0 hp1 hp2 hp3
            try simp only [Act.put, List.setIfInBounds_toArray, List.set_cons_zero, List.set_cons_succ]
            refine rz_done (by kernel_rfl) ?_ _
            have hF : Frm (fun k => k = W13.heap.size) W14 ((W14.setCell ⟨W13.heap.size, 0, none⟩ (.int .i64 (ep + 1))).setCell ⟨W13.heap.size, 1, none⟩ (.slice A2 (l.length + 1) cap2)) := Frm.tr (Frm.of_set _ _ _ rfl) (Frm.of_set _ _ _ rfl)
            have hle : wd.heap.size ≤ W13.heap.size := by omega
            have kP := ((b11_14.out.set 0 (.int .i64 (ep + 1))).set 1 (.slice A2 (l.length + 1) cap2))
            exact ⟨_, _, _, _, _, _, _, _, _, _, _, _, _, _, _, _, _, _, _, _, _, _, A2, cap2, rfl, Below.trans X14.out (hF.below X14.out.size (by rintro k e; omega)), hle, by simpa using kP, own_frm o_14.out hF (fun k hk e => own_type o_14.out b11_14.out (by decide) k hk e)⟩
          · go_simp
            refine hK _ _ (Frm.of_alloc _ _ _) ?_; clear hK K
            obtain ⟨W15, hw15⟩ : ∃ W15, W15 = W12.alloc (Obj.cells #[.int .i64 0, .slice none 0 0] 50) := ⟨_, rfl⟩
            have X15 : Hid (Ext wd W15) := (by (show Ext _ _); rw [hw15]; exact Ext.trans X12.out (ext_al _ _))
            have hz15 : wd.heap.size ≤ W12.heap.size := X12.out.size
            have b8_15 : Hid (Blk W15 (W1.heap.size) 3 #[.int .i64 x]) := (by (show Blk _ _ _ _); rw [hw15]; exact b8_12.out.alloc _)
            have o_15 : Hid (W15.ownsRow wd.heap.size 3 1 (v12) (l.length) (l.map i64)) := (by (show World.ownsRow _ _ _ _ _ _ _); rw [hw15]; exact o_12.out.alloc _)
            have b11_15 : Hid (Blk W15 (W12.heap.size) 50 #[.int .i64 0, .slice none 0 0]) := (by (show Blk _ _ _ _); rw [hw15]; exact Blk.new _ _ _)
            rw [← hw15]
            clear hw15
            try simp only [Act.put, List.setIfInBounds_toArray, List.set_cons_zero, List.set_cons_succ]
            refine rz_call (i := 9) rfl (by kernel_rfl) (by rfl) (fun K hK => ?_)
            refine wp_append_list (.tmp 23) (.tmp 25) 32 rfl wd.heap.size 3 (.int .i64 0) 8 Try.underlying32 info_int rfl (by decide) (v12) (l.length) (l.map i64) rfl o_15.out i64 (some ⟨W1.heap.size, 0, none⟩) [x] 1 1 rfl rfl (Sl.of_blk b8_15.out (fun j v hj => by match j, hj with | 0, hj => (simp at hj; subst hj; rfl))) (fun _ => rfl) (by simp <;> omega) X15.out.size ?_
            intro v16 W16 oo16 gg16 bb16
            refine hK _ _ (Frm.of_grown gg16 (fun k hk => (o_15.out.lt k hk.symm).1)) ?_
            clear hK K
            have X16 : Hid (Ext wd W16) := X15.out.grown gg16 X15.out.size (fun k hk => (o_15.out.lt k hk).1)
            have o_16 : Hid (W16.ownsRow wd.heap.size 3 1 v16 (l.length + 1) ((l ++ [x]).map i64)) := (by (show World.ownsRow _ _ _ _ _ _ _); simpa using oo16)
            have b11_16 : Hid (Blk W16 (W12.heap.size) 50 #[.int .i64 0, .slice none 0 0]) := b11_15.out.grown gg16 (fun e => own_type o_15.out b11_15.out (by decide) _ e.symm rfl)
            clear oo16 gg16 bb16
            obtain ⟨A2, cap2, hv2⟩ := own_shape o_16.out
            subst hv2
            try simp only [Act.put, List.setIfInBounds_toArray, List.set_cons_zero, List.set_cons_succ]
            refine rz_take [12] (i := 10) (v := ?_) rfl (by kernel_rfl) (by kernel_rfl) (by kernel_rfl) (by kernel_rfl) (by kernel_rfl) (by kernel_rfl) (fun _ _ _ h => h) (by rfl) ?_ ?_
            rotate_left
            · intro W hW; go_simp <;> with_reducible rfl
            try simp only [Act.put, List.setIfInBounds_toArray, List.set_cons_zero, List.set_cons_succ]
            refine rz_last (i := 12) rfl (by kernel_rfl) (by rfl) (by rfl) (fun K hK => ?_)
            have hp0 := b11_16.out.cell 0
            have hp1 := b11_16.out.cell 1
            have hp2 := b11_16.out.frozen 0
            have hp3 := b11_16.out.frozen 1
            simp at hp0 hp1
            go_simp
            refine hK _ _ ?_; clear hK K hp0 hp1 hp2 hp3
            try simp only [Act.put, List.setIfInBounds_toArray, List.set_cons_zero, List.set_cons_succ]
            refine rz_done (by kernel_rfl) ?_ _
            have hF : Frm (fun k => k = W12.heap.size) W16 ((W16.setCell ⟨W12.heap.size, 0, none⟩ (.int .i64 (ep + 1))).setCell ⟨W12.heap.size, 1, none⟩ (.slice A2 (l.length + 1) cap2)) := Frm.tr (Frm.of_set _ _ _ rfl) (Frm.of_set _ _ _ rfl)
            have hle : wd.heap.size ≤ W12.heap.size := by omega
            have kP := ((b11_16.out.set 0 (.int .i64 (ep + 1))).set 1 (.slice A2 (l.length + 1) cap2))
            exact ⟨_, _, _, _, _, _, _, _, _, _, _, _, _, _, _, _, _, _, _, _, _, _, A2, cap2, rfl, Below.trans X16.out (hF.below X16.out.size (by rintro k e; omega)), hle, by simpa using kP, own_frm o_16.out hF (fun k hk e => own_type o_16.out b11_16.out (by decide) k hk e)⟩
        · go_simp
          refine hK _ _ (Frm.of_alloc _ _ _) ?_; clear hK K
          obtain ⟨W17, hw17⟩ : ∃ W17, W17 = W11.alloc (Obj.cells #[.int .i64 0, .slice none 0 0] 50) := ⟨_, rfl⟩
          have X17 : Hid (Ext wd W17) := (by (show Ext _ _); rw [hw17]; exact Ext.trans X11.out (ext_al _ _))
          have hz17 : wd.heap.size ≤ W11.heap.size := X11.out.size
          have b8_17 : Hid (Blk W17 (W1.heap.size) 3 #[.int .i64 x]) := (by (show Blk _ _ _ _); rw [hw17]; exact b8_11.out.alloc _)
          have o_17 : Hid (W17.ownsRow wd.heap.size 3 1 (.slice (some ⟨wd.heap.size, 0, none⟩) 0 0) (0) ([])) := (by (show World.ownsRow _ _ _ _ _ _ _); rw [hw17]; exact o_11.out.alloc _)
          have b11_17 : Hid (Blk W17 (W11.heap.size) 50 #[.int .i64 0, .slice none 0 0]) := (by (show Blk _ _ _ _); rw [hw17]; exact Blk.new _ _ _)
          rw [← hw17]
          clear hw17
          try simp only [Act.put, List.setIfInBounds_toArray, List.set_cons_zero, List.set_cons_succ]
          refine rz_call (i := 6) rfl (by kernel_rfl) (by rfl) (fun K hK => ?_)
          refine wp_append_list (.tmp 20) (.tmp 22) 32 rfl wd.heap.size 3 (.int .i64 0) 8 Try.underlying32 info_int rfl (by decide) (.slice (some ⟨wd.heap.size, 0, none⟩) 0 0) (0) ([]) rfl o_17.out i64 A l l.length c1 rfl rfl (HSL.out _ X17.out) (fun _ => rfl) (by simp <;> omega) X17.out.size ?_
          intro v18 W18 oo18 gg18 bb18
          refine hK _ _ (Frm.of_grown gg18 (fun k hk => (o_17.out.lt k hk.symm).1)) ?_
          clear hK K
          have X18 : Hid (Ext wd W18) := X17.out.grown gg18 X17.out.size (fun k hk => (o_17.out.lt k hk).1)
          have o_18 : Hid (W18.ownsRow wd.heap.size 3 1 v18 l.length (l.map i64)) := (by (show World.ownsRow _ _ _ _ _ _ _); simpa using oo18)
          have b11_18 : Hid (Blk W18 (W11.heap.size) 50 #[.int .i64 0, .slice none 0 0]) := b11_17.out.grown gg18 (fun e => own_type o_17.out b11_17.out (by decide) _ e.symm rfl)
          have b8_18 : Hid (Blk W18 (W1.heap.size) 3 #[.int .i64 x]) := b8_17.out.grown gg18 n_11.out
          have n_18 : Hid (some (W1.heap.size) ≠ v18.ownBlock) := fun e => by
            rcases bb18 with h | ⟨k', h, hk'⟩
            · exact n_11.out (e.trans h)
            · have h5 := e.trans h; injection h5 with h5; have := b8_17.out.lt; omega
          clear oo18 gg18 bb18
          try simp only [Act.put, List.setIfInBounds_toArray, List.set_cons_zero, List.set_cons_succ]
          refine rz_call (i := 9) rfl (by kernel_rfl) (by rfl) (fun K hK => ?_)
          refine wp_append_list (.tmp 23) (.tmp 25) 32 rfl wd.heap.size 3 (.int .i64 0) 8 Try.underlying32 info_int rfl (by decide) (v18) (l.length) (l.map i64) rfl o_18.out i64 (some ⟨W1.heap.size, 0, none⟩) [x] 1 1 rfl rfl (Sl.of_blk b8_18.out (fun j v hj => by match j, hj with | 0, hj => (simp at hj; subst hj; rfl))) (fun _ => rfl) (by simp <;> omega) X18.out.size ?_
          intro v19 W19 oo19 gg19 bb19
          refine hK _ _ (Frm.of_grown gg19 (fun k hk => (o_18.out.lt k hk.symm).1)) ?_
          clear hK K
          have X19 : Hid (Ext wd W19) := X18.out.grown gg19 X18.out.size (fun k hk => (o_18.out.lt k hk).1)
          have o_19 : Hid (W19.ownsRow wd.heap.size 3 1 v19 (l.length + 1) ((l ++ [x]).map i64)) := (by (show World.ownsRow _ _ _ _ _ _ _); simpa using oo19)
          have b11_19 : Hid (Blk W19 (W11.heap.size) 50 #[.int .i64 0, .slice none 0 0]) := b11_18.out.grown gg19 (fun e => own_type o_18.out b11_18.out (by decide) _ e.symm rfl)
          clear oo19 gg19 bb19
          obtain ⟨A2, cap2, hv2⟩ := own_shape o_19.out
          subst hv2
          try simp only [Act.put, List.setIfInBounds_toArray, List.set_cons_zero, List.set_cons_succ]
          refine rz_take [12] (i := 10) (v := ?_) rfl (by kernel_rfl) (by kernel_rfl) (by kernel_rfl) (by kernel_rfl) (by kernel_rfl) (by kernel_rfl) (fun _ _ _ h => h) (by rfl) ?_ ?_
          rotate_left
          · intro W hW; go_simp <;> with_reducible rfl
          try simp only [Act.put, List.setIfInBounds_toArray, List.set_cons_zero, List.set_cons_succ]
          refine rz_last (i := 12) rfl (by kernel_rfl) (by rfl) (by rfl) (fun K hK => ?_)
          have hp0 := b11_19.out.cell 0
          have hp1 := b11_19.out.cell 1
          have hp2 := b11_19.out.frozen 0
          have hp3 := b11_19.out.frozen 1
          simp at hp0 hp1
          go_simp
          refine hK _ _ ?_; clear hK K hp0 hp1 hp2 hp3
          try simp only [Act.put, List.setIfInBounds_toArray, List.set_cons_zero, List.set_cons_succ]
          refine rz_done (by kernel_rfl) ?_ _
          have hF : Frm (fun k => k = W11.heap.size) W19 ((W19.setCell ⟨W11.heap.size, 0, none⟩ (.int .i64 (ep + 1))).setCell ⟨W11.heap.size, 1, none⟩ (.slice A2 (l.length + 1) cap2)) := Frm.tr (Frm.of_set _ _ _ rfl) (Frm.of_set _ _ _ rfl)
          have hle : wd.heap.size ≤ W11.heap.size := by omega
          have kP := ((b11_19.out.set 0 (.int .i64 (ep + 1))).set 1 (.slice A2 (l.length + 1) cap2))
          exact ⟨_, _, _, _, _, _, _, _, _, _, _, _, _, _, _, _, _, _, _, _, _, _, A2, cap2, rfl, Below.trans X19.out (hF.below X19.out.size (by rintro k e; omega)), hle, by simpa using kP, own_frm o_19.out hF (fun k hk e => own_type o_19.out b11_19.out (by decide) k hk e)⟩
      · go_simp
        refine hK _ _ (Frm.of_alloc _ _ _) ?_; clear hK K
        obtain ⟨W20, hw20⟩ : ∃ W20, W20 = W1.alloc (Obj.cells #[.int .i64 0, .slice none 0 0] 50) := ⟨_, rfl⟩
        have X20 : Hid (Ext wd W20) := (by (show Ext _ _); rw [hw20]; exact Ext.trans X1.out (ext_al _ _))
        have hz20 : wd.heap.size ≤ W1.heap.size := X1.out.size
        have o_20 : Hid (W20.ownsRow wd.heap.size 3 1 (.slice (some ⟨wd.heap.size, 0, none⟩) 0 0) (0) ([])) := (by (show World.ownsRow _ _ _ _ _ _ _); rw [hw20]; exact o_1.out.alloc _)
        have b11_20 : Hid (Blk W20 (W1.heap.size) 50 #[.int .i64 0, .slice none 0 0]) := (by (show Blk _ _ _ _); rw [hw20]; exact Blk.new _ _ _)
        rw [← hw20]
        clear hw20
        try simp only [Act.put, List.setIfInBounds_toArray, List.set_cons_zero, List.set_cons_succ]
        refine rz_two (i := 6) (j := 8) rfl rfl (by kernel_rfl) (by rfl) (by rfl) (fun K hK => ?_) (fun K hK => ?_)
        · refine wp_append_list (.tmp 20) (.tmp 22) 32 rfl wd.heap.size 3 (.int .i64 0) 8 Try.underlying32 info_int rfl (by decide) (.slice (some ⟨wd.heap.size, 0, none⟩) 0 0) (0) ([]) rfl o_20.out i64 A l l.length c1 rfl rfl (HSL.out _ X20.out) (fun _ => rfl) (by simp <;> omega) X20.out.size ?_
          intro v21 W21 oo21 gg21 bb21
          refine hK _ _ (Frm.of_grown gg21 (fun k hk => (o_20.out.lt k hk.symm).1)) ?_
          clear hK K
          have X21 : Hid (Ext wd W21) := X20.out.grown gg21 X20.out.size (fun k hk => (o_20.out.lt k hk).1)
          have o_21 : Hid (W21.ownsRow wd.heap.size 3 1 v21 l.length (l.map i64)) := (by (show World.ownsRow _ _ _ _ _ _ _); simpa using oo21)
          have b11_21 : Hid (Blk W21 (W1.heap.size) 50 #[.int .i64 0, .slice none 0 0]) := b11_20.out.grown gg21 (fun e => own_type o_20.out b11_20.out (by decide) _ e.symm rfl)
          clear oo21 gg21 bb21
          try simp only [Act.put, List.setIfInBounds_toArray, List.set_cons_zero, List.set_cons_succ]
          refine rz_call (i := 8) rfl (by kernel_rfl) (by rfl) (fun K hK => ?_)
          go_simp
          refine hK _ _ (Frm.of_alloc _ _ _) ?_; clear hK K
          obtain ⟨W22, hw22⟩ : ∃ W22, W22 = W21.alloc (Obj.cells #[.int .i64 x] 3) := ⟨_, rfl⟩
          have X22 : Hid (Ext wd W22) := (by (show Ext _ _); rw [hw22]; exact Ext.trans X21.out (ext_al _ _))
          have hz22 : wd.heap.size ≤ W21.heap.size := X21.out.size
          have b11_22 : Hid (Blk W22 (W1.heap.size) 50 #[.int .i64 0, .slice none 0 0]) := (by (show Blk _ _ _ _); rw [hw22]; exact b11_21.out.alloc _)
          have o_22 : Hid (W22.ownsRow wd.heap.size 3 1 (v21) (l.length) (l.map i64)) := (by (show World.ownsRow _ _ _ _ _ _ _); rw [hw22]; exact o_21.out.alloc _)
          have b8_22 : Hid (Blk W22 (W21.heap.size) 3 #[.int .i64 x]) := (by (show Blk _ _ _ _); rw [hw22]; exact Blk.new _ _ _)
          have n_22 : Hid (some (W21.heap.size) ≠ (v21 : Value).ownBlock) := fun e => by have := (o_21.out.lt _ e.symm).2; omega
          rw [← hw22]
          clear hw22
          try simp only [Act.put, List.setIfInBounds_toArray, List.set_cons_zero, List.set_cons_succ]
          refine rz_call (i := 9) rfl (by kernel_rfl) (by rfl) (fun K hK => ?_)
          refine wp_append_list (.tmp 23) (.tmp 25) 32 rfl wd.heap.size 3 (.int .i64 0) 8 Try.underlying32 info_int rfl (by decide) (v21) (l.length) (l.map i64) rfl o_22.out i64 (some ⟨W21.heap.size, 0, none⟩) [x] 1 1 rfl rfl (Sl.of_blk b8_22.out (fun j v hj => by match j, hj with | 0, hj => (simp at hj; subst hj; rfl))) (fun _ => rfl) (by simp <;> omega) X22.out.size ?_
          intro v23 W23 oo23 gg23 bb23
          refine hK _ _ (Frm.of_grown gg23 (fun k hk => (o_22.out.lt k hk.symm).1)) ?_
          clear hK K
          have X23 : Hid (Ext wd W23) := X22.out.grown gg23 X22.out.size (fun k hk => (o_22.out.lt k hk).1)
          have o_23 : Hid (W23.ownsRow wd.heap.size 3 1 v23 (l.length + 1) ((l ++ [x]).map i64)) := (by (show World.ownsRow _ _ _ _ _ _ _); simpa using oo23)
          have b11_23 : Hid (Blk W23 (W1.heap.size) 50 #[.int .i64 0, .slice none 0 0]) := b11_22.out.grown gg23 (fun e => own_type o_22.out b11_22.out (by decide) _ e.symm rfl)
          clear oo23 gg23 bb23
          obtain ⟨A2, cap2, hv2⟩ := own_shape o_23.out
          subst hv2
          try simp only [Act.put, List.setIfInBounds_toArray, List.set_cons_zero, List.set_cons_succ]
          refine rz_take [12] (i := 10) (v := ?_) rfl (by kernel_rfl) (by kernel_rfl) (by kernel_rfl) (by kernel_rfl) (by kernel_rfl) (by kernel_rfl) (fun _ _ _ h => h) (by rfl) ?_ ?_
          rotate_left
          · intro W hW; go_simp <;> with_reducible rfl
          try simp only [Act.put, List.setIfInBounds_toArray, List.set_cons_zero, List.set_cons_succ]
          refine rz_last (i := 12) rfl (by kernel_rfl) (by rfl) (by rfl) (fun K hK => ?_)
          have hp0 := b11_23.out.cell 0
          have hp1 := b11_23.out.cell 1
          have hp2 := b11_23.out.frozen 0
          have hp3 := b11_23.out.frozen 1
          simp at hp0 hp1
          go_simp
          refine hK _ _ ?_; clear hK K hp0 hp1 hp2 hp3
          try simp only [Act.put, List.setIfInBounds_toArray, List.set_cons_zero, List.set_cons_succ]
          refine rz_done (by kernel_rfl) ?_ _
          have hF : Frm (fun k => k = W1.heap.size) W23 ((W23.setCell ⟨W1.heap.size, 0, none⟩ (.int .i64 (ep + 1))).setCell ⟨W1.heap.size, 1, none⟩ (.slice A2 (l.length + 1) cap2)) := Frm.tr (Frm.of_set _ _ _ rfl) (Frm.of_set _ _ _ rfl)
          have hle : wd.heap.size ≤ W1.heap.size := by omega
          have kP := ((b11_23.out.set 0 (.int .i64 (ep + 1))).set 1 (.slice A2 (l.length + 1) cap2))
          exact ⟨_, _, _, _, _, _, _, _, _, _, _, _, _, _, _, _, _, _, _, _, _, _, A2, cap2, rfl, Below.trans X23.out (hF.below X23.out.size (by rintro k e; omega)), hle, by simpa using kP, own_frm o_23.out hF (fun k hk e => own_type o_23.out b11_23.out (by decide) k hk e)⟩
        · go_simp
          refine hK _ _ (Frm.of_alloc _ _ _) ?_; clear hK K
          obtain ⟨W24, hw24⟩ : ∃ W24, W24 = W20.alloc (Obj.cells #[.int .i64 x] 3) := ⟨_, rfl⟩
          have X24 : Hid (Ext wd W24) := (by (show Ext _ _); rw [hw24]; exact Ext.trans X20.out (ext_al _ _))
          have hz24 : wd.heap.size ≤ W20.heap.size := X20.out.size
          have b11_24 : Hid (Blk W24 (W1.heap.size) 50 #[.int .i64 0, .slice none 0 0]) := (by (show Blk _ _ _ _); rw [hw24]; exact b11_20.out.alloc _)
          have o_24 : Hid (W24.ownsRow wd.heap.size 3 1 (.slice (some ⟨wd.heap.size, 0, none⟩) 0 0) (0) ([])) := (by (show World.ownsRow _ _ _ _ _ _ _); rw [hw24]; exact o_20.out.alloc _)
          have b8_24 : Hid (Blk W24 (W20.heap.size) 3 #[.int .i64 x]) := (by (show Blk _ _ _ _); rw [hw24]; exact Blk.new _ _ _)
          have n_24 : Hid (some (W20.heap.size) ≠ (.slice (some ⟨wd.heap.size, 0, none⟩) 0 0 : Value).ownBlock) := fun e => by have := (o_20.out.lt _ e.symm).2; omega
          rw [← hw24]
          clear hw24
          try simp only [Act.put, List.setIfInBounds_toArray, List.set_cons_zero, List.set_cons_succ]
          refine rz_call (i := 6) rfl (by kernel_rfl) (by rfl) (fun K hK => ?_)
          refine wp_append_list (.tmp 20) (.tmp 22) 32 rfl wd.heap.size 3 (.int .i64 0) 8 Try.underlying32 info_int rfl (by decide) (.slice (some ⟨wd.heap.size, 0, none⟩) 0 0) (0) ([]) rfl o_24.out i64 A l l.length c1 rfl rfl (HSL.out _ X24.out) (fun _ => rfl) (by simp <;> omega) X24.out.size ?_
          intro v25 W25 oo25 gg25 bb25
          refine hK _ _ (Frm.of_grown gg25 (fun k hk => (o_24.out.lt k hk.symm).1)) ?_
          clear hK K
          have X25 : Hid (Ext wd W25) := X24.out.grown gg25 X24.out.size (fun k hk => (o_24.out.lt k hk).1)
          have o_25 : Hid (W25.ownsRow wd.heap.size 3 1 v25 l.length (l.map i64)) := (by (show World.ownsRow _ _ _ _ _ _ _); simpa using oo25)
          have b11_25 : Hid (Blk W25 (W1.heap.size) 50 #[.int .i64 0, .slice none 0 0]) := b11_24.out.grown gg25 (fun e => own_type o_24.out b11_24.out (by decide) _ e.symm rfl)
          have b8_25 : Hid (Blk W25 (W20.heap.size) 3 #[.int .i64 x]) := b8_24.out.grown gg25 n_24.out
          have n_25 : Hid (some (W20.heap.size) ≠ v25.ownBlock) := fun e => by
            rcases bb25 with h | ⟨k', h, hk'⟩
            · exact n_24.out (e.trans h)
            · have h5 := e.trans h; injection h5 with h5; have := b8_24.out.lt; omega
          clear oo25 gg25 bb25
          try simp only [Act.put, List.setIfInBounds_toArray, List.set_cons_zero, List.set_cons_succ]
          refine rz_call (i := 9) rfl (by kernel_rfl) (by rfl) (fun K hK => ?_)
          refine wp_append_list (.tmp 23) (.tmp 25) 32 rfl wd.heap.size 3 (.int .i64 0) 8 Try.underlying32 info_int rfl (by decide) (v25) (l.length) (l.map i64) rfl o_25.out i64 (some ⟨W20.heap.size, 0, none⟩) [x] 1 1 rfl rfl (Sl.of_blk b8_25.out (fun j v hj => by match j, hj with | 0, hj => (simp at hj; subst hj; rfl))) (fun _ => rfl) (by simp <;> omega) X25.out.size ?_
          intro v26 W26 oo26 gg26 bb26
          refine hK _ _ (Frm.of_grown gg26 (fun k hk => (o_25.out.lt k hk.symm).1)) ?_
          clear hK K
          have X26 : Hid (Ext wd W26) := X25.out.grown gg26 X25.out.size (fun k hk => (o_25.out.lt k hk).1)
          have o_26 : Hid (W26.ownsRow wd.heap.size 3 1 v26 (l.length + 1) ((l ++ [x]).map i64)) := (by (show World.ownsRow _ _ _ _ _ _ _); simpa using oo26)
          have b11_26 : Hid (Blk W26 (W1.heap.size) 50 #[.int .i64 0, .slice none 0 0]) := b11_25.out.grown gg26 (fun e => own_type o_25.out b11_25.out (by decide) _ e.symm rfl)
          clear oo26 gg26 bb26
          obtain ⟨A2, cap2, hv2⟩ := own_shape o_26.out
          subst hv2
          try simp only [Act.put, List.setIfInBounds_toArray, List.set_cons_zero, List.set_cons_succ]
          refine rz_take [12] (i := 10) (v := ?_) rfl (by kernel_rfl) (by kernel_rfl) (by kernel_rfl) (by kernel_rfl) (by kernel_rfl) (by kernel_rfl) (fun _ _ _ h => h) (by rfl) ?_ ?_
          rotate_left
          · intro W hW; go_simp <;> with_reducible rfl
          try simp only [Act.put, List.setIfInBounds_toArray, List.set_cons_zero, List.set_cons_succ]
          refine rz_last (i := 12) rfl (by kernel_rfl) (by rfl) (by rfl) (fun K hK => ?_)
          have hp0 := b11_26.out.cell 0
          have hp1 := b11_26.out.cell 1
          have hp2 := b11_26.out.frozen 0
          have hp3 := b11_26.out.frozen 1
          simp at hp0 hp1
          go_simp
          refine hK _ _ ?_; clear hK K hp0 hp1 hp2 hp3
          try simp only [Act.put, List.setIfInBounds_toArray, List.set_cons_zero, List.set_cons_succ]
          refine rz_done (by kernel_rfl) ?_ _
          have hF : Frm (fun k => k = W1.heap.size) W26 ((W26.setCell ⟨W1.heap.size, 0, none⟩ (.int .i64 (ep + 1))).setCell ⟨W1.heap.size, 1, none⟩ (.slice A2 (l.length + 1) cap2)) := Frm.tr (Frm.of_set _ _ _ rfl) (Frm.of_set _ _ _ rfl)
          have hle : wd.heap.size ≤ W1.heap.size := by omega
          have kP := ((b11_26.out.set 0 (.int .i64 (ep + 1))).set 1 (.slice A2 (l.length + 1) cap2))
          exact ⟨_, _, _, _, _, _, _, _, _, _, _, _, _, _, _, _, _, _, _, _, _, _, A2, cap2, rfl, Below.trans X26.out (hF.below X26.out.size (by rintro k e; omega)), hle, by simpa using kP, own_frm o_26.out hF (fun k hk e => own_type o_26.out b11_26.out (by decide) k hk e)⟩
    · go_simp
      refine hK _ _ (Frm.of_alloc _ _ _) ?_; clear hK K
      obtain ⟨W27, hw27⟩ : ∃ W27, W27 = wd.alloc (Obj.cells #[.int .i64 x] 3) := ⟨_, rfl⟩
      have X27 : Hid (Ext wd W27) := (by (show Ext _ _); rw [hw27]; exact Ext.trans XD.out (ext_al _ _))
      have hz27 : wd.heap.size ≤ wd.heap.size := XD.out.size
      have b8_27 : Hid (Blk W27 (wd.heap.size) 3 #[.int .i64 x]) := (by (show Blk _ _ _ _); rw [hw27]; exact Blk.new _ _ _)
      rw [← hw27]
      clear hw27
      try simp only [Act.put, List.setIfInBounds_toArray, List.set_cons_zero, List.set_cons_succ]
      refine rz_two (i := 3) (j := 11) rfl rfl (by kernel_rfl) (by rfl) (by rfl) (fun K hK => ?_) (fun K hK => ?_)
      · go_simp
        refine hK _ _ (Frm.of_alloc _ _ _) ?_; clear hK K
        obtain ⟨W28, hw28⟩ : ∃ W28, W28 = W27.alloc (Obj.cells #[] 3) := ⟨_, rfl⟩
        have X28 : Hid (Ext wd W28) := (by (show Ext _ _); rw [hw28]; exact Ext.trans X27.out (ext_al _ _))
        have hz28 : wd.heap.size ≤ W27.heap.size := X27.out.size
        have b8_28 : Hid (Blk W28 (wd.heap.size) 3 #[.int .i64 x]) := (by (show Blk _ _ _ _); rw [hw28]; exact b8_27.out.alloc _)
        have o_28 : Hid (W28.ownsRow wd.heap.size 3 1 (.slice (some ⟨W27.heap.size, 0, none⟩) 0 0) 0 []) := (by (show World.ownsRow _ _ _ _ _ _ _); rw [hw28]; exact World.ownsRow_made W27 #[] 0 hz28 (by decide) rfl)
        have n_28 : Hid (some (wd.heap.size) ≠ (Value.slice (some ⟨W27.heap.size, 0, none⟩) 0 0).ownBlock) := fun e => by have := b8_27.out.lt; injection e with e; simp at e; omega
        rw [← hw28]
        clear hw28
        try simp only [Act.put, List.setIfInBounds_toArray, List.set_cons_zero, List.set_cons_succ]
        refine rz_two (i := 6) (j := 11) rfl rfl (by kernel_rfl) (by rfl) (by rfl) (fun K hK => ?_) (fun K hK => ?_)
        · refine wp_append_list (.tmp 20) (.tmp 22) 32 rfl wd.heap.size 3 (.int .i64 0) 8 Try.underlying32 info_int rfl (by decide) (.slice (some ⟨W27.heap.size, 0, none⟩) 0 0) (0) ([]) rfl o_28.out i64 A l l.length c1 rfl rfl (HSL.out _ X28.out) (fun _ => rfl) (by simp <;> omega) X28.out.size ?_
          intro v29 W29 oo29 gg29 bb29
          refine hK _ _ (Frm.of_grown gg29 (fun k hk => (o_28.out.lt k hk.symm).1)) ?_
          clear hK K
          have X29 : Hid (Ext wd W29) := X28.out.grown gg29 X28.out.size (fun k hk => (o_28.out.lt k hk).1)
          have o_29 : Hid (W29.ownsRow wd.heap.size 3 1 v29 l.length (l.map i64)) := (by (show World.ownsRow _ _ _ _ _ _ _); simpa using oo29)
          have b8_29 : Hid (Blk W29 (wd.heap.size) 3 #[.int .i64 x]) := b8_28.out.grown gg29 n_28.out
          have n_29 : Hid (some (wd.heap.size) ≠ v29.ownBlock) := fun e => by
            rcases bb29 with h | ⟨k', h, hk'⟩
            · exact n_28.out (e.trans h)
            · have h5 := e.trans h; injection h5 with h5; have := b8_28.out.lt; omega
          clear oo29 gg29 bb29
          try simp only [Act.put, List.setIfInBounds_toArray, List.set_cons_zero, List.set_cons_succ]
          refine rz_two (i := 9) (j := 11) rfl rfl (by kernel_rfl) (by rfl) (by rfl) (fun K hK => ?_) (fun K hK => ?_)
          · refine wp_append_list (.tmp 23) (.tmp 25) 32 rfl wd.heap.size 3 (.int .i64 0) 8 Try.underlying32 info_int rfl (by decide) (v29) (l.length) (l.map i64) rfl o_29.out i64 (some ⟨wd.heap.size, 0, none⟩) [x] 1 1 rfl rfl (Sl.of_blk b8_29.out (fun j v hj => by match j, hj with | 0, hj => (simp at hj; subst hj; rfl))) (fun _ => rfl) (by simp <;> omega) X29.out.size ?_
            intro v30 W30 oo30 gg30 bb30
            refine hK _ _ (Frm.of_grown gg30 (fun k hk => (o_29.out.lt k hk.symm).1)) ?_
            clear hK K
            have X30 : Hid (Ext wd W30) := X29.out.grown gg30 X29.out.size (fun k hk => (o_29.out.lt k hk).1)
            have o_30 : Hid (W30.ownsRow wd.heap.size 3 1 v30 (l.length + 1) ((l ++ [x]).map i64)) := (by (show World.ownsRow _ _ _ _ _ _ _); simpa using oo30)
            clear oo30 gg30 bb30
            obtain ⟨A2, cap2, hv2⟩ := own_shape o_30.out
            subst hv2
            try simp only [Act.put, List.setIfInBounds_toArray, List.set_cons_zero, List.set_cons_succ]
            refine rz_take [12] (i := 10) (v := ?_) rfl (by kernel_rfl) (by kernel_rfl) (by kernel_rfl) (by kernel_rfl) (by kernel_rfl) (by kernel_rfl) (fun _ _ _ h => h) (by rfl) ?_ ?_
            rotate_left
            · intro W hW; go_simp <;> with_reducible rfl
            try simp only [Act.put, List.setIfInBounds_toArray, List.set_cons_zero, List.set_cons_succ]
            refine rz_call (i := 11) rfl (by kernel_rfl) (by rfl) (fun K hK => ?_)
            go_simp
            refine hK _ _ (Frm.of_alloc _ _ _) ?_; clear hK K
            obtain ⟨W31, hw31⟩ : ∃ W31, W31 = W30.alloc (Obj.cells #[.int .i64 0, .slice none 0 0] 50) := ⟨_, rfl⟩
            have X31 : Hid (Ext wd W31) := (by (show Ext _ _); rw [hw31]; exact Ext.trans X30.out (ext_al _ _))
            have hz31 : wd.heap.size ≤ W30.heap.size := X30.out.size
            have o_31 : Hid (W31.ownsRow wd.heap.size 3 1 (.slice A2 (l.length + 1) cap2) ((l.length + 1)) ((l ++ [x]).map i64)) := (by (show World.ownsRow _ _ _ _ _ _ _); rw [hw31]; exact o_30.out.alloc _)
            have b11_31 : Hid (Blk W31 (W30.heap.size) 50 #[.int .i64 0, .slice none 0 0]) := (by (show Blk _ _ _ _); rw [hw31]; exact Blk.new _ _ _)
            rw [← hw31]
            clear hw31
            try simp only [Act.put, List.setIfInBounds_toArray, List.set_cons_zero, List.set_cons_succ]
            refine rz_last (i := 12) rfl (by kernel_rfl) (by rfl) (by rfl) (fun K hK => ?_)
            have hp0 := b11_31.out.cell 0
            have hp1 := b11_31.out.cell 1
            have hp2 := b11_31.out.frozen 0
            have hp3 := b11_31.out.frozen 1
            simp at hp0 hp1
            go_simp
            refine hK _ _ ?_; clear hK K hp0 hp1 hp2 hp3
            try simp only [Act.put, List.setIfInBounds_toArray, List.set_cons_zero, List.set_cons_succ]
            refine rz_done (by kernel_rfl) ?_ _
            have hF : Frm (fun k => k = W30.heap.size) W31 ((W31.setCell ⟨W30.heap.size, 0, none⟩ (.int .i64 (ep + 1))).setCell ⟨W30.heap.size, 1, none⟩ (.slice A2 (l.length + 1) cap2)) := Frm.tr (Frm.of_set _ _ _ rfl) (Frm.of_set _ _ _ rfl)
            have hle : wd.heap.size ≤ W30.heap.size := by omega
            have kP := ((b11_31.out.set 0 (.int .i64 (ep + 1))).set 1 (.slice A2 (l.length + 1) cap2))
            exact ⟨_, _, _, _, _, _, _, _, _, _, _, _, _, _, _, _, _, _, _, _, _, _, A2, cap2, rfl, Below.trans X31.out (hF.below X31.out.size (by rintro k e; omega)), hle, by simpa using kP, own_frm o_31.out hF (fun k hk e => own_type o_31.out b11_31.out (by decide) k hk e)⟩
          · go_simp
            refine hK _ _ (Frm.of_alloc _ _ _) ?_; clear hK K
            obtain ⟨W32, hw32⟩ : ∃ W32, W32 = W29.alloc (Obj.cells #[.int .i64 0, .slice none 0 0] 50) := ⟨_, rfl⟩
            have X32 : Hid (Ext wd W32) := (by (show Ext _ _); rw [hw32]; exact Ext.trans X29.out (ext_al _ _))
            have hz32 : wd.heap.size ≤ W29.heap.size := X29.out.size
            have b8_32 : Hid (Blk W32 (wd.heap.size) 3 #[.int .i64 x]) := (by (show Blk _ _ _ _); rw [hw32]; exact b8_29.out.alloc _)
            have o_32 : Hid (W32.ownsRow wd.heap.size 3 1 (v29) (l.length) (l.map i64)) := (by (show World.ownsRow _ _ _ _ _ _ _); rw [hw32]; exact o_29.out.alloc _)
            have b11_32 : Hid (Blk W32 (W29.heap.size) 50 #[.int .i64 0, .slice none 0 0]) := (by (show Blk _ _ _ _); rw [hw32]; exact Blk.new _ _ _)
            rw [← hw32]
            clear hw32
            try simp only [Act.put, List.setIfInBounds_toArray, List.set_cons_zero, List.set_cons_succ]
            refine rz_call (i := 9) rfl (by kernel_rfl) (by rfl) (fun K hK => ?_)
            refine wp_append_list (.tmp 23) (.tmp 25) 32 rfl wd.heap.size 3 (.int .i64 0) 8 Try.underlying32 info_int rfl (by decide) (v29) (l.length) (l.map i64) rfl o_32.out i64 (some ⟨wd.heap.size, 0, none⟩) [x] 1 1 rfl rfl (Sl.of_blk b8_32.out (fun j v hj => by match j, hj with | 0, hj => (simp at hj; subst hj; rfl))) (fun _ => rfl) (by simp <;> omega) X32.out.size ?_
            intro v33 W33 oo33 gg33 bb33
            refine hK _ _ (Frm.of_grown gg33 (fun k hk => (o_32.out.lt k hk.symm).1)) ?_
            clear hK K
            have X33 : Hid (Ext wd W33) := X32.out.grown gg33 X32.out.size (fun k hk => (o_32.out.lt k hk).1)
            have o_33 : Hid (W33.ownsRow wd.heap.size 3 1 v33 (l.length + 1) ((l ++ [x]).map i64)) := (by (show World.ownsRow _ _ _ _ _ _ _); simpa using oo33)
            have b11_33 : Hid (Blk W33 (W29.heap.size) 50 #[.int .i64 0, .slice none 0 0]) := b11_32.out.grown gg33 (fun e => own_type o_32.out b11_32.out (by decide) _ e.symm rfl)
            clear oo33 gg33 bb33
            obtain ⟨A2, cap2, hv2⟩ := own_shape o_33.out
            subst hv2
            try simp only [Act.put, List.setIfInBounds_toArray, List.set_cons_zero, List.set_cons_succ]
            refine rz_take [12] (i := 10) (v := ?_) rfl (by kernel_rfl) (by kernel_rfl) (by kernel_rfl) (by kernel_rfl) (by kernel_rfl) (by kernel_rfl) (fun _ _ _ h => h) (by rfl) ?_ ?_
            rotate_left
            · intro W hW; go_simp <;> with_reducible rfl
            try simp only [Act.put, List.setIfInBounds_toArray, List.set_cons_zero, List.set_cons_succ]
            refine rz_last (i := 12) rfl (by kernel_rfl) (by rfl) (by rfl) (fun K hK => ?_)
            have hp0 := b11_33.out.cell 0
            have hp1 := b11_33.out.cell 1
            have hp2 := b11_33.out.frozen 0
            have hp3 := b11_33.out.frozen 1
            simp at hp0 hp1
            go_simp
            refine hK _ _ ?_; clear hK K hp0 hp1 hp2 hp3
            try simp only [Act.put, List.setIfInBounds_toArray, List.set_cons_zero, List.set_cons_succ]
            refine rz_done (by kernel_rfl) ?_ _
            have hF : Frm (fun k => k = W29.heap.size) W33 ((W33.setCell ⟨W29.heap.size, 0, none⟩ (.int .i64 (ep + 1))).setCell ⟨W29.heap.size, 1, none⟩ (.slice A2 (l.length + 1) cap2)) := Frm.tr (Frm.of_set _ _ _ rfl) (Frm.of_set _ _ _ rfl)
            have hle : wd.heap.size ≤ W29.heap.size := by omega
            have kP := ((b11_33.out.set 0 (.int .i64 (ep + 1))).set 1 (.slice A2 (l.length + 1) cap2))
            exact ⟨_, _, _, _, _, _, _, _, _, _, _, _, _, _, _, _, _, _, _, _, _, _, A2, cap2, rfl, Below.trans X33.out (hF.below X33.out.size (by rintro k e; omega)), hle, by simpa using kP, own_frm o_33.out hF (fun k hk e => own_type o_33.out b11_33.out (by decide) k hk e)⟩
        · go_simp
          refine hK _ _ (Frm.of_alloc _ _ _) ?_; clear hK K
          obtain ⟨W34, hw34⟩ : ∃ W34, W34 = W28.alloc (Obj.cells #[.int .i64 0, .slice none 0 0] 50) := ⟨_, rfl⟩
          have X34 : Hid (Ext wd W34) := (by (show Ext _ _); rw [hw34]; exact Ext.trans X28.out (ext_al _ _))
          have hz34 : wd.heap.size ≤ W28.heap.size := X28.out.size
          have b8_34 : Hid (Blk W34 (wd.heap.size) 3 #[.int .i64 x]) := (by (show Blk _ _ _ _); rw [hw34]; exact b8_28.out.alloc _)
          have o_34 : Hid (W34.ownsRow wd.heap.size 3 1 (.slice (some ⟨W27.heap.size, 0, none⟩) 0 0) (0) ([])) := (by (show World.ownsRow _ _ _ _ _ _ _); rw [hw34]; exact o_28.out.alloc _)
          have b11_34 : Hid (Blk W34 (W28.heap.size) 50 #[.int .i64 0, .slice none 0 0]) := (by (show Blk _ _ _ _); rw [hw34]; exact Blk.new _ _ _)
          rw [← hw34]
          clear hw34
          try simp only [Act.put, List.setIfInBounds_toArray, List.set_cons_zero, List.set_cons_succ]
          refine rz_call (i := 6) rfl (by kernel_rfl) (by rfl) (fun K hK => ?_)
          refine wp_append_list (.tmp 20) (.tmp 22) 32 rfl wd.heap.size 3 (.int .i64 0) 8 Try.underlying32 info_int rfl (by decide) (.slice (some ⟨W27.heap.size, 0, none⟩) 0 0) (0) ([]) rfl o_34.out i64 A l l.length c1 rfl rfl (HSL.out _ X34.out) (fun _ => rfl) (by simp <;> omega) X34.out.size ?_
          intro v35 W35 oo35 gg35 bb35
          refine hK _ _ (Frm.of_grown gg35 (fun k hk => (o_34.out.lt k hk.symm).1)) ?_
          clear hK K
          have X35 : Hid (Ext wd W35) := X34.out.grown gg35 X34.out.size (fun k hk => (o_34.out.lt k hk).1)
          have o_35 : Hid (W35.ownsRow wd.heap.size 3 1 v35 l.length (l.map i64)) := (by (show World.ownsRow _ _ _ _ _ _ _); simpa using oo35)
          have b11_35 : Hid (Blk W35 (W28.heap.size) 50 #[.int .i64 0, .slice none 0 0]) := b11_34.out.grown gg35 (fun e => own_type o_34.out b11_34.out (by decide) _ e.symm rfl)
          have b8_35 : Hid (Blk W35 (wd.heap.size) 3 #[.int .i64 x]) := b8_34.out.grown gg35 n_28.out
          have n_35 : Hid (some (wd.heap.size) ≠ v35.ownBlock) := fun e => by
            rcases bb35 with h | ⟨k', h, hk'⟩
            · exact n_28.out (e.trans h)
            · have h5 := e.trans h; injection h5 with h5; have := b8_34.out.lt; omega
          clear oo35 gg35 bb35
          try simp only [Act.put, List.setIfInBounds_toArray, List.set_cons_zero, List.set_cons_succ]
          refine rz_call (i := 9) rfl (by kernel_rfl) (by rfl) (fun K hK => ?_)
          refine wp_append_list (.tmp 23) (.tmp 25) 32 rfl wd.heap.size 3 (.int .i64 0) 8 Try.underlying32 info_int rfl (by decide) (v35) (l.length) (l.map i64) rfl o_35.out i64 (some ⟨wd.heap.size, 0, none⟩) [x] 1 1 rfl rfl (Sl.of_blk b8_35.out (fun j v hj => by match j, hj with | 0, hj => (simp at hj; subst hj; rfl))) (fun _ => rfl) (by simp <;> omega) X35.out.size ?_
          intro v36 W36 oo36 gg36 bb36
          refine hK _ _ (Frm.of_grown gg36 (fun k hk => (o_35.out.lt k hk.symm).1)) ?_
          clear hK K
          have X36 : Hid (Ext wd W36) := X35.out.grown gg36 X35.out.size (fun k hk => (o_35.out.lt k hk).1)
          have o_36 : Hid (W36.ownsRow wd.heap.size 3 1 v36 (l.length + 1) ((l ++ [x]).map i64)) := (by (show World.ownsRow _ _ _ _ _ _ _); simpa using oo36)
          have b11_36 : Hid (Blk W36 (W28.heap.size) 50 #[.int .i64 0, .slice none 0 0]) := b11_35.out.grown gg36 (fun e => own_type o_35.out b11_35.out (by decide) _ e.symm rfl)
          clear oo36 gg36 bb36
          obtain ⟨A2, cap2, hv2⟩ := own_shape o_36.out
          subst hv2
          try simp only [Act.put, List.setIfInBounds_toArray, List.set_cons_zero, List.set_cons_succ]
          refine rz_take [12] (i := 10) (v := ?_) rfl (by kernel_rfl) (by kernel_rfl) (by kernel_rfl) (by kernel_rfl) (by kernel_rfl) (by kernel_rfl) (fun _ _ _ h => h) (by rfl) ?_ ?_
          rotate_left
          · intro W hW; go_simp <;> with_reducible rfl
          try simp only [Act.put, List.setIfInBounds_toArray, List.set_cons_zero, List.set_cons_succ]
          refine rz_last (i := 12) rfl (by kernel_rfl) (by rfl) (by rfl) (fun K hK => ?_)
          have hp0 := b11_36.out.cell 0
          have hp1 := b11_36.out.cell 1
          have hp2 := b11_36.out.frozen 0
          have hp3 := b11_36.out.frozen 1
          simp at hp0 hp1
          go_simp
          refine hK _ _ ?_; clear hK K hp0 hp1 hp2 hp3
          try simp only [Act.put, List.setIfInBounds_toArray, List.set_cons_zero, List.set_cons_succ]
          refine rz_done (by kernel_rfl) ?_ _
          have hF : Frm (fun k => k = W28.heap.size) W36 ((W36.setCell ⟨W28.heap.size, 0, none⟩ (.int .i64 (ep + 1))).setCell ⟨W28.heap.size, 1, none⟩ (.slice A2 (l.length + 1) cap2)) := Frm.tr (Frm.of_set _ _ _ rfl) (Frm.of_set _ _ _ rfl)
          have hle : wd.heap.size ≤ W28.heap.size := by omega
          have kP := ((b11_36.out.set 0 (.int .i64 (ep + 1))).set 1 (.slice A2 (l.length + 1) cap2))
          exact ⟨_, _, _, _, _, _, _, _, _, _, _, _, _, _, _, _, _, _, _, _, _, _, A2, cap2, rfl, Below.trans X36.out (hF.below X36.out.size (by rintro k e; omega)), hle, by simpa using kP, own_frm o_36.out hF (fun k hk e => own_type o_36.out b11_36.out (by decide) k hk e)⟩
      · go_simp
        refine hK _ _ (Frm.of_alloc _ _ _) ?_; clear hK K
        obtain ⟨W37, hw37⟩ : ∃ W37, W37 = W27.alloc (Obj.cells #[.int .i64 0, .slice none 0 0] 50) := ⟨_, rfl⟩
        have X37 : Hid (Ext wd W37) := (by (show Ext _ _); rw [hw37]; exact Ext.trans X27.out (ext_al _ _))
        have hz37 : wd.heap.size ≤ W27.heap.size := X27.out.size
        have b8_37 : Hid (Blk W37 (wd.heap.size) 3 #[.int .i64 x]) := (by (show Blk _ _ _ _); rw [hw37]; exact b8_27.out.alloc _)
        have b11_37 : Hid (Blk W37 (W27.heap.size) 50 #[.int .i64 0, .slice none 0 0]) := (by (show Blk _ _ _ _); rw [hw37]; exact Blk.new _ _ _)
        rw [← hw37]
        clear hw37
        try simp only [Act.put, List.setIfInBounds_toArray, List.set_cons_zero, List.set_cons_succ]
        refine rz_call (i := 3) rfl (by kernel_rfl) (by rfl) (fun K hK => ?_)
        go_simp
        refine hK _ _ (Frm.of_alloc _ _ _) ?_; clear hK K
        obtain ⟨W38, hw38⟩ : ∃ W38, W38 = W37.alloc (Obj.cells #[] 3) := ⟨_, rfl⟩
        have X38 : Hid (Ext wd W38) := (by (show Ext _ _); rw [hw38]; exact Ext.trans X37.out (ext_al _ _))
        have hz38 : wd.heap.size ≤ W37.heap.size := X37.out.size
        have b8_38 : Hid (Blk W38 (wd.heap.size) 3 #[.int .i64 x]) := (by (show Blk _ _ _ _); rw [hw38]; exact b8_37.out.alloc _)
        have b11_38 : Hid (Blk W38 (W27.heap.size) 50 #[.int .i64 0, .slice none 0 0]) := (by (show Blk _ _ _ _); rw [hw38]; exact b11_37.out.alloc _)
        have o_38 : Hid (W38.ownsRow wd.heap.size 3 1 (.slice (some ⟨W37.heap.size, 0, none⟩) 0 0) 0 []) := (by (show World.ownsRow _ _ _ _ _ _ _); rw [hw38]; exact World.ownsRow_made W37 #[] 0 hz38 (by decide) rfl)
        have n_38 : Hid (some (wd.heap.size) ≠ (Value.slice (some ⟨W37.heap.size, 0, none⟩) 0 0).ownBlock) := fun e => by have := b8_37.out.lt; injection e with e; simp at e; omega
        rw [← hw38]
        clear hw38
        try simp only [Act.put, List.setIfInBounds_toArray, List.set_cons_zero, List.set_cons_succ]
        refine rz_call (i := 6) rfl (by kernel_rfl) (by rfl) (fun K hK => ?_)
        refine wp_append_list (.tmp 20) (.tmp 22) 32 rfl wd.heap.size 3 (.int .i64 0) 8 Try.underlying32 info_int rfl (by decide) (.slice (some ⟨W37.heap.size, 0, none⟩) 0 0) (0) ([]) rfl o_38.out i64 A l l.length c1 rfl rfl (HSL.out _ X38.out) (fun _ => rfl) (by simp <;> omega) X38.out.size ?_
        intro v39 W39 oo39 gg39 bb39
        refine hK _ _ (Frm.of_grown gg39 (fun k hk => (o_38.out.lt k hk.symm).1)) ?_
        clear hK K
        have X39 : Hid (Ext wd W39) := X38.out.grown gg39 X38.out.size (fun k hk => (o_38.out.lt k hk).1)
        have o_39 : Hid (W39.ownsRow wd.heap.size 3 1 v39 l.length (l.map i64)) := (by (show World.ownsRow _ _ _ _ _ _ _); simpa using oo39)
        have b11_39 : Hid (Blk W39 (W27.heap.size) 50 #[.int .i64 0, .slice none 0 0]) := b11_38.out.grown gg39 (fun e => own_type o_38.out b11_38.out (by decide) _ e.symm rfl)
        have b8_39 : Hid (Blk W39 (wd.heap.size) 3 #[.int .i64 x]) := b8_38.out.grown gg39 n_38.out
        have n_39 : Hid (some (wd.heap.size) ≠ v39.ownBlock) := fun e => by
          rcases bb39 with h | ⟨k', h, hk'⟩
          · exact n_38.out (e.trans h)
          · have h5 := e.trans h; injection h5 with h5; have := b8_38.out.lt; omega
        clear oo39 gg39 bb39
        try simp only [Act.put, List.setIfInBounds_toArray, List.set_cons_zero, List.set_cons_succ]
        refine rz_call (i := 9) rfl (by kernel_rfl) (by rfl) (fun K hK => ?_)
        refine wp_append_list (.tmp 23) (.tmp 25) 32 rfl wd.heap.size 3 (.int .i64 0) 8 Try.underlying32 info_int rfl (by decide) (v39) (l.length) (l.map i64) rfl o_39.out i64 (some ⟨wd.heap.size, 0, none⟩) [x] 1 1 rfl rfl (Sl.of_blk b8_39.out (fun j v hj => by match j, hj with | 0, hj => (simp at hj; subst hj; rfl))) (fun _ => rfl) (by simp <;> omega) X39.out.size ?_
        intro v40 W40 oo40 gg40 bb40
        refine hK _ _ (Frm.of_grown gg40 (fun k hk => (o_39.out.lt k hk.symm).1)) ?_
        clear hK K
        have X40 : Hid (Ext wd W40) := X39.out.grown gg40 X39.out.size (fun k hk => (o_39.out.lt k hk).1)
        have o_40 : Hid (W40.ownsRow wd.heap.size 3 1 v40 (l.length + 1) ((l ++ [x]).map i64)) := (by (show World.ownsRow _ _ _ _ _ _ _); simpa using oo40)
        have b11_40 : Hid (Blk W40 (W27.heap.size) 50 #[.int .i64 0, .slice none 0 0]) := b11_39.out.grown gg40 (fun e => own_type o_39.out b11_39.out (by decide) _ e.symm rfl)
        clear oo40 gg40 bb40
        obtain ⟨A2, cap2, hv2⟩ := own_shape o_40.out
        subst hv2
        try simp only [Act.put, List.setIfInBounds_toArray, List.set_cons_zero, List.set_cons_succ]
        refine rz_take [12] (i := 10) (v := ?_) rfl (by kernel_rfl) (by kernel_rfl) (by kernel_rfl) (by kernel_rfl) (by kernel_rfl) (by kernel_rfl) (fun _ _ _ h => h) (by rfl) ?_ ?_
        rotate_left
        · intro W hW; go_simp <;> with_reducible rfl
        try simp only [Act.put, List.setIfInBounds_toArray, List.set_cons_zero, List.set_cons_succ]
        refine rz_last (i := 12) rfl (by kernel_rfl) (by rfl) (by rfl) (fun K hK => ?_)
        have hp0 := b11_40.out.cell 0
        have hp1 := b11_40.out.cell 1
        have hp2 := b11_40.out.frozen 0
        have hp3 := b11_40.out.frozen 1
        simp at hp0 hp1
        go_simp
        refine hK _ _ ?_; clear hK K hp0 hp1 hp2 hp3
        try simp only [Act.put, List.setIfInBounds_toArray, List.set_cons_zero, List.set_cons_succ]
        refine rz_done (by kernel_rfl) ?_ _
        have hF : Frm (fun k => k = W27.heap.size) W40 ((W40.setCell ⟨W27.heap.size, 0, none⟩ (.int .i64 (ep + 1))).setCell ⟨W27.heap.size, 1, none⟩ (.slice A2 (l.length + 1) cap2)) := Frm.tr (Frm.of_set _ _ _ rfl) (Frm.of_set _ _ _ rfl)
        have hle : wd.heap.size ≤ W27.heap.size := by omega
        have kP := ((b11_40.out.set 0 (.int .i64 (ep + 1))).set 1 (.slice A2 (l.length + 1) cap2))
        exact ⟨_, _, _, _, _, _, _, _, _, _, _, _, _, _, _, _, _, _, _, _, _, _, A2, cap2, rfl, Below.trans X40.out (hF.below X40.out.size (by rintro k e; omega)), hle, by simpa using kP, own_frm o_40.out hF (fun k hk e => own_type o_40.out b11_40.out (by decide) k hk e)⟩
    · go_simp
      refine hK _ _ (Frm.of_alloc _ _ _) ?_; clear hK K
      obtain ⟨W41, hw41⟩ : ∃ W41, W41 = wd.alloc (Obj.cells #[.int .i64 0, .slice none 0 0] 50) := ⟨_, rfl⟩
      have X41 : Hid (Ext wd W41) := (by (show Ext _ _); rw [hw41]; exact Ext.trans XD.out (ext_al _ _))
      have hz41 : wd.heap.size ≤ wd.heap.size := XD.out.size
      have b11_41 : Hid (Blk W41 (wd.heap.size) 50 #[.int .i64 0, .slice none 0 0]) := (by (show Blk _ _ _ _); rw [hw41]; exact Blk.new _ _ _)
      rw [← hw41]
      clear hw41
      try simp only [Act.put, List.setIfInBounds_toArray, List.set_cons_zero, List.set_cons_succ]
      refine rz_two (i := 3) (j := 8) rfl rfl (by kernel_rfl) (by rfl) (by rfl) (fun K hK => ?_) (fun K hK => ?_)
      · go_simp
        refine hK _ _ (Frm.of_alloc _ _ _) ?_; clear hK K
        obtain ⟨W42, hw42⟩ : ∃ W42, W42 = W41.alloc (Obj.cells #[] 3) := ⟨_, rfl⟩
        have X42 : Hid (Ext wd W42) := (by (show Ext _ _); rw [hw42]; exact Ext.trans X41.out (ext_al _ _))
        have hz42 : wd.heap.size ≤ W41.heap.size := X41.out.size
        have b11_42 : Hid (Blk W42 (wd.heap.size) 50 #[.int .i64 0, .slice none 0 0]) := (by (show Blk _ _ _ _); rw [hw42]; exact b11_41.out.alloc _)
        have o_42 : Hid (W42.ownsRow wd.heap.size 3 1 (.slice (some ⟨W41.heap.size, 0, none⟩) 0 0) 0 []) := (by (show World.ownsRow _ _ _ _ _ _ _); rw [hw42]; exact World.ownsRow_made W41 #[] 0 hz42 (by decide) rfl)
        rw [← hw42]
        clear hw42
        try simp only [Act.put, List.setIfInBounds_toArray, List.set_cons_zero, List.set_cons_succ]
        refine rz_two (i := 6) (j := 8) rfl rfl (by kernel_rfl) (by rfl) (by rfl) (fun K hK => ?_) (fun K hK => ?_)
        · refine wp_append_list (.tmp 20) (.tmp 22) 32 rfl wd.heap.size 3 (.int .i64 0) 8 Try.underlying32 info_int rfl (by decide) (.slice (some ⟨W41.heap.size, 0, none⟩) 0 0) (0) ([]) rfl o_42.out i64 A l l.length c1 rfl rfl (HSL.out _ X42.out) (fun _ => rfl) (by simp <;> omega) X42.out.size ?_
          intro v43 W43 oo43 gg43 bb43
          refine hK _ _ (Frm.of_grown gg43 (fun k hk => (o_42.out.lt k hk.symm).1)) ?_
          clear hK K
          have X43 : Hid (Ext wd W43) := X42.out.grown gg43 X42.out.size (fun k hk => (o_42.out.lt k hk).1)
          have o_43 : Hid (W43.ownsRow wd.heap.size 3 1 v43 l.length (l.map i64)) := (by (show World.ownsRow _ _ _ _ _ _ _); simpa using oo43)
          have b11_43 : Hid (Blk W43 (wd.heap.size) 50 #[.int .i64 0, .slice none 0 0]) := b11_42.out.grown gg43 (fun e => own_type o_42.out b11_42.out (by decide) _ e.symm rfl)
          clear oo43 gg43 bb43
          try simp only [Act.put, List.setIfInBounds_toArray, List.set_cons_zero, List.set_cons_succ]
          refine rz_call (i := 8) rfl (by kernel_rfl) (by rfl) (fun K hK => ?_)
          go_simp
          refine hK _ _ (Frm.of_alloc _ _ _) ?_; clear hK K
          obtain ⟨W44, hw44⟩ : ∃ W44, W44 = W43.alloc (Obj.cells #[.int .i64 x] 3) := ⟨_, rfl⟩
          have X44 : Hid (Ext wd W44) := (by (show Ext _ _); rw [hw44]; exact Ext.trans X43.out (ext_al _ _))
          have hz44 : wd.heap.size ≤ W43.heap.size := X43.out.size
          have b11_44 : Hid (Blk W44 (wd.heap.size) 50 #[.int .i64 0, .slice none 0 0]) := (by (show Blk _ _ _ _); rw [hw44]; exact b11_43.out.alloc _)
          have o_44 : Hid (W44.ownsRow wd.heap.size 3 1 (v43) (l.length) (l.map i64)) := (by (show World.ownsRow _ _ _ _ _ _ _); rw [hw44]; exact o_43.out.alloc _)
          have b8_44 : Hid (Blk W44 (W43.heap.size) 3 #[.int .i64 x]) := (by (show Blk _ _ _ _); rw [hw44]; exact Blk.new _ _ _)
          have n_44 : Hid (some (W43.heap.size) ≠ (v43 : Value).ownBlock) := fun e => by have := (o_43.out.lt _ e.symm).2; omega
          rw [← hw44]
          clear hw44
          try simp only [Act.put, List.setIfInBounds_toArray, List.set_cons_zero, List.set_cons_succ]
          refine rz_call (i := 9) rfl (by kernel_rfl) (by rfl) (fun K hK => ?_)
          refine wp_append_list (.tmp 23) (.tmp 25) 32 rfl wd.heap.size 3 (.int .i64 0) 8 Try.underlying32 info_int rfl (by decide) (v43) (l.length) (l.map i64) rfl o_44.out i64 (some ⟨W43.heap.size, 0, none⟩) [x] 1 1 rfl rfl (Sl.of_blk b8_44.out (fun j v hj => by match j, hj with | 0, hj => (simp at hj; subst hj; rfl))) (fun _ => rfl) (by simp <;> omega) X44.out.size ?_
          intro v45 W45 oo45 gg45 bb45
          refine hK _ _ (Frm.of_grown gg45 (fun k hk => (o_44.out.lt k hk.symm).1)) ?_
          clear hK K
          have X45 : Hid (Ext wd W45) := X44.out.grown gg45 X44.out.size (fun k hk => (o_44.out.lt k hk).1)
          have o_45 : Hid (W45.ownsRow wd.heap.size 3 1 v45 (l.length + 1) ((l ++ [x]).map i64)) := (by (show World.ownsRow _ _ _ _ _ _ _); simpa using oo45)
          have b11_45 : Hid (Blk W45 (wd.heap.size) 50 #[.int .i64 0, .slice none 0 0]) := b11_44.out.grown gg45 (fun e => own_type o_44.out b11_44.out (by decide) _ e.symm rfl)
          clear oo45 gg45 bb45
          obtain ⟨A2, cap2, hv2⟩ := own_shape o_45.out
          subst hv2
          try simp only [Act.put, List.setIfInBounds_toArray, List.set_cons_zero, List.set_cons_succ]
          refine rz_take [12] (i := 10) (v := ?_) rfl (by kernel_rfl) (by kernel_rfl) (by kernel_rfl) (by kernel_rfl) (by kernel_rfl) (by kernel_rfl) (fun _ _ _ h => h) (by rfl) ?_ ?_
          rotate_left
          · intro W hW; go_simp <;> with_reducible rfl
          try simp only [Act.put, List.setIfInBounds_toArray, List.set_cons_zero, List.set_cons_succ]
          refine rz_last (i := 12) rfl (by kernel_rfl) (by rfl) (by rfl) (fun K hK => ?_)
          have hp0 := b11_45.out.cell 0
          have hp1 := b11_45.out.cell 1
          have hp2 := b11_45.out.frozen 0
          have hp3 := b11_45.out.frozen 1
          simp at hp0 hp1
          go_simp
          refine hK _ _ ?_; clear hK K hp0 hp1 hp2 hp3
          try simp only [Act.put, List.setIfInBounds_toArray, List.set_cons_zero, List.set_cons_succ]
          refine rz_done (by kernel_rfl) ?_ _
          have hF : Frm (fun k => k = wd.heap.size) W45 ((W45.setCell ⟨wd.heap.size, 0, none⟩ (.int .i64 (ep + 1))).setCell ⟨wd.heap.size, 1, none⟩ (.slice A2 (l.length + 1) cap2)) := Frm.tr (Frm.of_set _ _ _ rfl) (Frm.of_set _ _ _ rfl)
          have hle : wd.heap.size ≤ wd.heap.size := by omega
          have kP := ((b11_45.out.set 0 (.int .i64 (ep + 1))).set 1 (.slice A2 (l.length + 1) cap2))
          exact ⟨_, _, _, _, _, _, _, _, _, _, _, _, _, _, _, _, _, _, _, _, _, _, A2, cap2, rfl, Below.trans X45.out (hF.below X45.out.size (by rintro k e; omega)), hle, by simpa using kP, own_frm o_45.out hF (fun k hk e => own_type o_45.out b11_45.out (by decide) k hk e)⟩
        · go_simp
          refine hK _ _ (Frm.of_alloc _ _ _) ?_; clear hK K
          obtain ⟨W46, hw46⟩ : ∃ W46, W46 = W42.alloc (Obj.cells #[.int .i64 x] 3) := ⟨_, rfl⟩
          have X46 : Hid (Ext wd W46) := (by (show Ext _ _); rw [hw46]; exact Ext.trans X42.out (ext_al _ _))
          have hz46 : wd.heap.size ≤ W42.heap.size := X42.out.size
          have b11_46 : Hid (Blk W46 (wd.heap.size) 50 #[.int .i64 0, .slice none 0 0]) := (by (show Blk _ _ _ _); rw [hw46]; exact b11_42.out.alloc _)
          have o_46 : Hid (W46.ownsRow wd.heap.size 3 1 (.slice (some ⟨W41.heap.size, 0, none⟩) 0 0) (0) ([])) := (by (show World.ownsRow _ _ _ _ _ _ _); rw [hw46]; exact o_42.out.alloc _)
          have b8_46 : Hid (Blk W46 (W42.heap.size) 3 #[.int .i64 x]) := (by (show Blk _ _ _ _); rw [hw46]; exact Blk.new _ _ _)
          have n_46 : Hid (some (W42.heap.size) ≠ (.slice (some ⟨W41.heap.size, 0, none⟩) 0 0 : Value).ownBlock) := fun e => by have := (o_42.out.lt _ e.symm).2; omega
          rw [← hw46]
          clear hw46
          try simp only [Act.put, List.setIfInBounds_toArray, List.set_cons_zero, List.set_cons_succ]
          refine rz_call (i := 6) rfl (by kernel_rfl) (by rfl) (fun K hK => ?_)
          refine wp_append_list (.tmp 20) (.tmp 22) 32 rfl wd.heap.size 3 (.int .i64 0) 8 Try.underlying32 info_int rfl (by decide) (.slice (some ⟨W41.heap.size, 0, none⟩) 0 0) (0) ([]) rfl o_46.out i64 A l l.length c1 rfl rfl (HSL.out _ X46.out) (fun _ => rfl) (by simp <;> omega) X46.out.size ?_
          intro v47 W47 oo47 gg47 bb47
          refine hK _ _ (Frm.of_grown gg47 (fun k hk => (o_46.out.lt k hk.symm).1)) ?_
          clear hK K
          have X47 : Hid (Ext wd W47) := X46.out.grown gg47 X46.out.size (fun k hk => (o_46.out.lt k hk).1)
          have o_47 : Hid (W47.ownsRow wd.heap.size 3 1 v47 l.length (l.map i64)) := (by (show World.ownsRow _ _ _ _ _ _ _); simpa using oo47)
          have b11_47 : Hid (Blk W47 (wd.heap.size) 50 #[.int .i64 0, .slice none 0 0]) := b11_46.out.grown gg47 (fun e => own_type o_46.out b11_46.out (by decide) _ e.symm rfl)
          have b8_47 : Hid (Blk W47 (W42.heap.size) 3 #[.int .i64 x]) := b8_46.out.grown gg47 n_46.out
          have n_47 : Hid (some (W42.heap.size) ≠ v47.ownBlock) := fun e => by
            rcases bb47 with h | ⟨k', h, hk'⟩
            · exact n_46.out (e.trans h)
            · have h5 := e.trans h; injection h5 with h5; have := b8_46.out.lt; omega
          clear oo47 gg47 bb47
          try simp only [Act.put, List.setIfInBounds_toArray, List.set_cons_zero, List.set_cons_succ]
          refine rz_call (i := 9) rfl (by kernel_rfl) (by rfl) (fun K hK => ?_)
          refine wp_append_list (.tmp 23) (.tmp 25) 32 rfl wd.heap.size 3 (.int .i64 0) 8 Try.underlying32 info_int rfl (by decide) (v47) (l.length) (l.map i64) rfl o_47.out i64 (some ⟨W42.heap.size, 0, none⟩) [x] 1 1 rfl rfl (Sl.of_blk b8_47.out (fun j v hj => by match j, hj with | 0, hj => (simp at hj; subst hj; rfl))) (fun _ => rfl) (by simp <;> omega) X47.out.size ?_
          intro v48 W48 oo48 gg48 bb48
          refine hK _ _ (Frm.of_grown gg48 (fun k hk => (o_47.out.lt k hk.symm).1)) ?_
          clear hK K
          have X48 : Hid (Ext wd W48) := X47.out.grown gg48 X47.out.size (fun k hk => (o_47.out.lt k hk).1)
          have o_48 : Hid (W48.ownsRow wd.heap.size 3 1 v48 (l.length + 1) ((l ++ [x]).map i64)) := (by (show World.ownsRow _ _ _ _ _ _ _); simpa using oo48)
          have b11_48 : Hid (Blk W48 (wd.heap.size) 50 #[.int .i64 0, .slice none 0 0]) := b11_47.out.grown gg48 (fun e => own_type o_47.out b11_47.out (by decide) _ e.symm rfl)
          clear oo48 gg48 bb48
          obtain ⟨A2, cap2, hv2⟩ := own_shape o_48.out
          subst hv2
          try simp only [Act.put, List.setIfInBounds_toArray, List.set_cons_zero, List.set_cons_succ]
          refine rz_take [12] (i := 10) (v := ?_) rfl (by kernel_rfl) (by kernel_rfl) (by kernel_rfl) (by kernel_rfl) (by kernel_rfl) (by kernel_rfl) (fun _ _ _ h => h) (by rfl) ?_ ?_
          rotate_left
          · intro W hW; go_simp <;> with_reducible rfl
          try simp only [Act.put, List.setIfInBounds_toArray, List.set_cons_zero, List.set_cons_succ]
          refine rz_last (i := 12) rfl (by kernel_rfl) (by rfl) (by rfl) (fun K hK => ?_)
          have hp0 := b11_48.out.cell 0
          have hp1 := b11_48.out.cell 1
          have hp2 := b11_48.out.frozen 0
          have hp3 := b11_48.out.frozen 1
          simp at hp0 hp1
          go_simp
          refine hK _ _ ?_; clear hK K hp0 hp1 hp2 hp3
          try simp only [Act.put, List.setIfInBounds_toArray, List.set_cons_zero, List.set_cons_succ]
          refine rz_done (by kernel_rfl) ?_ _
          have hF : Frm (fun k => k = wd.heap.size) W48 ((W48.setCell ⟨wd.heap.size, 0, none⟩ (.int .i64 (ep + 1))).setCell ⟨wd.heap.size, 1, none⟩ (.slice A2 (l.length + 1) cap2)) := Frm.tr (Frm.of_set _ _ _ rfl) (Frm.of_set _ _ _ rfl)
          have hle : wd.heap.size ≤ wd.heap.size := by omega
          have kP := ((b11_48.out.set 0 (.int .i64 (ep + 1))).set 1 (.slice A2 (l.length + 1) cap2))
          exact ⟨_, _, _, _, _, _, _, _, _, _, _, _, _, _, _, _, _, _, _, _, _, _, A2, cap2, rfl, Below.trans X48.out (hF.below X48.out.size (by rintro k e; omega)), hle, by simpa using kP, own_frm o_48.out hF (fun k hk e => own_type o_48.out b11_48.out (by decide) k hk e)⟩
      · go_simp
        refine hK _ _ (Frm.of_alloc _ _ _) ?_; clear hK K
        obtain ⟨W49, hw49⟩ : ∃ W49, W49 = W41.alloc (Obj.cells #[.int .i64 x] 3) := ⟨_, rfl⟩
        have X49 : Hid (Ext wd W49) := (by (show Ext _ _); rw [hw49]; exact Ext.trans X41.out (ext_al _ _))
        have hz49 : wd.heap.size ≤ W41.heap.size := X41.out.size
        have b11_49 : Hid (Blk W49 (wd.heap.size) 50 #[.int .i64 0, .slice none 0 0]) := (by (show Blk _ _ _ _); rw [hw49]; exact b11_41.out.alloc _)
        have b8_49 : Hid (Blk W49 (W41.heap.size) 3 #[.int .i64 x]) := (by (show Blk _ _ _ _); rw [hw49]; exact Blk.new _ _ _)
        rw [← hw49]
        clear hw49
        try simp only [Act.put, List.setIfInBounds_toArray, List.set_cons_zero, List.set_cons_succ]
        refine rz_call (i := 3) rfl (by kernel_rfl) (by rfl) (fun K hK => ?_)
        go_simp
        refine hK _ _ (Frm.of_alloc _ _ _) ?_; clear hK K
        obtain ⟨W50, hw50⟩ : ∃ W50, W50 = W49.alloc (Obj.cells #[] 3) := ⟨_, rfl⟩
        have X50 : Hid (Ext wd W50) := (by (show Ext _ _); rw [hw50]; exact Ext.trans X49.out (ext_al _ _))
        have hz50 : wd.heap.size ≤ W49.heap.size := X49.out.size
        have b8_50 : Hid (Blk W50 (W41.heap.size) 3 #[.int .i64 x]) := (by (show Blk _ _ _ _); rw [hw50]; exact b8_49.out.alloc _)
        have b11_50 : Hid (Blk W50 (wd.heap.size) 50 #[.int .i64 0, .slice none 0 0]) := (by (show Blk _ _ _ _); rw [hw50]; exact b11_49.out.alloc _)
        have o_50 : Hid (W50.ownsRow wd.heap.size 3 1 (.slice (some ⟨W49.heap.size, 0, none⟩) 0 0) 0 []) := (by (show World.ownsRow _ _ _ _ _ _ _); rw [hw50]; exact World.ownsRow_made W49 #[] 0 hz50 (by decide) rfl)
        have n_50 : Hid (some (W41.heap.size) ≠ (Value.slice (some ⟨W49.heap.size, 0, none⟩) 0 0).ownBlock) := fun e => by have := b8_49.out.lt; injection e with e; simp at e; omega
        rw [← hw50]
        clear hw50
        try simp only [Act.put, List.setIfInBounds_toArray, List.set_cons_zero, List.set_cons_succ]
        refine rz_call (i := 6) rfl (by kernel_rfl) (by rfl) (fun K hK => ?_)
        refine wp_append_list (.tmp 20) (.tmp 22) 32 rfl wd.heap.size 3 (.int .i64 0) 8 Try.underlying32 info_int rfl (by decide) (.slice (some ⟨W49.heap.size, 0, none⟩) 0 0) (0) ([]) rfl o_50.out i64 A l l.length c1 rfl rfl (HSL.out _ X50.out) (fun _ => rfl) (by simp <;> omega) X50.out.size ?_
        intro v51 W51 oo51 gg51 bb51
        refine hK _ _ (Frm.of_grown gg51 (fun k hk => (o_50.out.lt k hk.symm).1)) ?_
        clear hK K
        have X51 : Hid (Ext wd W51) := X50.out.grown gg51 X50.out.size (fun k hk => (o_50.out.lt k hk).1)
        have o_51 : Hid (W51.ownsRow wd.heap.size 3 1 v51 l.length (l.map i64)) := (by (show World.ownsRow _ _ _ _ _ _ _); simpa using oo51)
        have b11_51 : Hid (Blk W51 (wd.heap.size) 50 #[.int .i64 0, .slice none 0 0]) := b11_50.out.grown gg51 (fun e => own_type o_50.out b11_50.out (by decide) _ e.symm rfl)
        have b8_51 : Hid (Blk W51 (W41.heap.size) 3 #[.int .i64 x]) := b8_50.out.grown gg51 n_50.out
        have n_51 : Hid (some (W41.heap.size) ≠ v51.ownBlock) := fun e => by
          rcases bb51 with h | ⟨k', h, hk'⟩
          · exact n_50.out (e.trans h)
          · have h5 := e.trans h; injection h5 with h5; have := b8_50.out.lt; omega
        clear oo51 gg51 bb51
        try simp only [Act.put, List.setIfInBounds_toArray, List.set_cons_zero, List.set_cons_succ]
        refine rz_call (i := 9) rfl (by kernel_rfl) (by rfl) (fun K hK => ?_)
        refine wp_append_list (.tmp 23) (.tmp 25) 32 rfl wd.heap.size 3 (.int .i64 0) 8 Try.underlying32 info_int rfl (by decide) (v51) (l.length) (l.map i64) rfl o_51.out i64 (some ⟨W41.heap.size, 0, none⟩) [x] 1 1 rfl rfl (Sl.of_blk b8_51.out (fun j v hj => by match j, hj with | 0, hj => (simp at hj; subst hj; rfl))) (fun _ => rfl) (by simp <;> omega) X51.out.size ?_
        intro v52 W52 oo52 gg52 bb52
        refine hK _ _ (Frm.of_grown gg52 (fun k hk => (o_51.out.lt k hk.symm).1)) ?_
        clear hK K
        have X52 : Hid (Ext wd W52) := X51.out.grown gg52 X51.out.size (fun k hk => (o_51.out.lt k hk).1)
        have o_52 : Hid (W52.ownsRow wd.heap.size 3 1 v52 (l.length + 1) ((l ++ [x]).map i64)) := (by (show World.ownsRow _ _ _ _ _ _ _); simpa using oo52)
        have b11_52 : Hid (Blk W52 (wd.heap.size) 50 #[.int .i64 0, .slice none 0 0]) := b11_51.out.grown gg52 (fun e => own_type o_51.out b11_51.out (by decide) _ e.symm rfl)
        clear oo52 gg52 bb52
        obtain ⟨A2, cap2, hv2⟩ := own_shape o_52.out
        subst hv2
        try simp only [Act.put, List.setIfInBounds_toArray, List.set_cons_zero, List.set_cons_succ]
        refine rz_take [12] (i := 10) (v := ?_) rfl (by kernel_rfl) (by kernel_rfl) (by kernel_rfl) (by kernel_rfl) (by kernel_rfl) (by kernel_rfl) (fun _ _ _ h => h) (by rfl) ?_ ?_
        rotate_left
        · intro W hW; go_simp <;> with_reducible rfl
        try simp only [Act.put, List.setIfInBounds_toArray, List.set_cons_zero, List.set_cons_succ]
        refine rz_last (i := 12) rfl (by kernel_rfl) (by rfl) (by rfl) (fun K hK => ?_)
        have hp0 := b11_52.out.cell 0
        have hp1 := b11_52.out.cell 1
        have hp2 := b11_52.out.frozen 0
        have hp3 := b11_52.out.frozen 1
        simp at hp0 hp1
        go_simp
        refine hK _ _ ?_; clear hK K hp0 hp1 hp2 hp3
        try simp only [Act.put, List.setIfInBounds_toArray, List.set_cons_zero, List.set_cons_succ]
        refine rz_done (by kernel_rfl) ?_ _
        have hF : Frm (fun k => k = wd.heap.size) W52 ((W52.setCell ⟨wd.heap.size, 0, none⟩ (.int .i64 (ep + 1))).setCell ⟨wd.heap.size, 1, none⟩ (.slice A2 (l.length + 1) cap2)) := Frm.tr (Frm.of_set _ _ _ rfl) (Frm.of_set _ _ _ rfl)
        have hle : wd.heap.size ≤ wd.heap.size := by omega
        have kP := ((b11_52.out.set 0 (.int .i64 (ep + 1))).set 1 (.slice A2 (l.length + 1) cap2))
        exact ⟨_, _, _, _, _, _, _, _, _, _, _, _, _, _, _, _, _, _, _, _, _, _, A2, cap2, rfl, Below.trans X52.out (hF.below X52.out.size (by rintro k e; omega)), hle, by simpa using kP, own_frm o_52.out hF (fun k hk e => own_type o_52.out b11_52.out (by decide) k hk e)⟩
  · have HXD := Lib.hid h0d
    clear hwd h0d HX HPL1
    rintro a' wr ⟨s7, s8, s9, s10, s11, s12, s13, s14, s15, s16, s17, s18, s19, s20, s21, s22, s23, s24, s25, s26, s27, P, AL, cL, rfl, hx, hle, kP, ho⟩
    have hlen : l.length + 1 = (l ++ [x]).length := by simp
    have HN5 : l.length + 1 ≤ 1000001 := by omega
    rw [hlen] at kP ho HN5
    clear hlen
    have hzz : w.heap.size + 1 < wd.heap.size := by have h1 := HXD.out.size; have h2 := HZ.out; omega
    generalize hLe : l ++ [x] = L at *
    clear hLe
    have d0 := kP.cell 0
    have d1 := kP.cell 1
    simp at d0 d1
    have kr := K1.out.stay (Ext.trans HXD.out hx)
    have HKR := Lib.hid kr
    have HCALL : Hid (∀ b, mayChainB (ep + 1) L = b → Calls Try.prog 44 #[.agg #[.int .i64 (ep + 1), .slice AL L.length cL]] wr fun e w' => e = .returned (.bool b) ∧ Ext wr w') := fun b hb => by rw [← hb]; exact refMayChain_any (ep + 1) AL cL L wr (by omega) (own_sl ho)
    have HKP := Lib.hid kP
    have HFIN : Hid (∀ w9 E A' N C c, Ext wr w9 → MayR (ep + 1) AL cL L E A' N C c → D (.returned (.tuple #[.agg #[.int .i64 E, .slice A' N C], .int .i64 c])) ((w9.setCell ⟨w.heap.size + 1, 0, none⟩ (.int .i64 E)).setCell ⟨w.heap.size + 1, 1, none⟩ (.slice A' N C))) := fun w9 E A' N C c hx9 hr => by
      have hF : Frm (fun k => k = w.heap.size + 1) w9 ((w9.setCell ⟨w.heap.size + 1, 0, none⟩ (.int .i64 E)).setCell ⟨w.heap.size + 1, 1, none⟩ (.slice A' N C)) := Frm.tr (Frm.of_set _ _ _ rfl) (Frm.of_set _ _ _ rfl)
      have h1 := own_frm (s := fun _ => False) ho (Frm.of_below hx9 _) (fun _ _ h => h)
      have h2 := own_frm h1 hF (fun k hk e => by have := (h1.lt k hk).1; omega)
      have hlo : Ext w w9 := Ext.trans (Ext.trans HB0.out (Ext.trans HXD.out hx)) hx9
      exact hD.out _ _ (MayR.res hr (own_sl h2) (own_cap h2) (fun a ha => by have := own_fresh h2 a ha; omega) (Below.trans hlo (hF.below hlo.size (by rintro k e; omega))))
    clear ho kP kr hx hD
    cases g5 : mayChainB (ep + 1) L
    · have HC := Lib.hid (HCALL.out false g5)
      have HMR : Hid (MayR (ep + 1) AL cL L 0 none 0 0 1) := .inr ⟨g5, rfl, rfl, rfl, rfl, rfl⟩
      clear g5 HCALL
      generalize L.length = n5 at *
      go_wp2_with (go_at_call 44; (with_reducible refine HC.out.mono ?_); rintro e w9 ⟨rfl, hx⟩; have kr := HKR.out.stay hx; have q0 := kr.cell 0; have q1 := kr.cell 1; have q2 := kr.frozen 0; have q3 := kr.frozen 1; have KR := Lib.hid kr; have HX9 := Lib.hid hx; clear kr hx; simp at q0 q1)
      have KA := (KR.out.set 0 (.int .i64 0)).set 1 (.slice none 0 0)
      have hcA := KA.cell 0
      have hcB := KA.cell 1
      simp at hcA hcB
      have hE := HFIN.out _ _ _ _ _ _ HX9.out HMR.out
      exact bodyPost_ret (v := .tuple #[chV 0 none 0 0, .int .i64 1]) (by simp [results, Try.results54, go_sem, hcA, hcB]) rfl hE
    · have HC := Lib.hid (HCALL.out true g5)
      have HMR : Hid (MayR (ep + 1) AL cL L (ep + 1) AL L.length cL 0) := .inl ⟨g5, rfl, rfl, rfl, rfl, rfl⟩
      clear g5 HCALL
      go_wp2_with (go_at_call 44; (with_reducible refine HC.out.mono ?_); rintro e w9 ⟨rfl, hx⟩; have kr := HKR.out.stay hx; have q0 := kr.cell 0; have q1 := kr.cell 1; have q2 := kr.frozen 0; have q3 := kr.frozen 1; have KR := Lib.hid kr; have e0 := (HKP.out.stay hx).cell 0; have e1 := (HKP.out.stay hx).cell 1; have HX9 := Lib.hid hx; clear kr hx; simp at q0 q1 e0 e1)
      have KA := (KR.out.set 0 (.int .i64 (ep + 1))).set 1 (.slice AL L.length cL)
      have hcA := KA.cell 0
      have hcB := KA.cell 1
      simp at hcA hcB
      have hE := HFIN.out _ _ _ _ _ _ HX9.out HMR.out
      exact bodyPost_ret (v := .tuple #[.agg #[.int .i64 (ep + 1), .slice AL L.length cL], .int .i64 0]) (by simp [results, Try.results54, go_sem, hcA, hcB]) rfl hE
end Go.Proofs.Ytdjkopdgapifpaa
