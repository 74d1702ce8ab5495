/-
  The told rows of the laws of chapter 12.
-/
import Derived.Test.YtdjkopdgapifpaaChWithout
import Derived.Test.YtdjkopdgapifpaaChNext
namespace Go.Proofs.Ytdjkopdgapifpaa
set_option linter.unusedVariables false
set_option linter.unusedSimpArgs false
open Go.RowKit

set_option maxRecDepth 4000 in
set_option maxHeartbeats 4000000 in
theorem told12 (w : World) : Calls Try.prog 45 #[] w fun e w' => e = .returned (.bool true) ∧ Ext w w' := by
  refine hide_post fun D hD => ?_
  have HF : Hid (∀ W, Calls Try.prog 37 #[.int .i64 3] W fun e w' => ∃ A c, e = .returned (.tuple #[.agg #[.int .i64 1, .slice A 3 c], .int .i64 0]) ∧ Sl i64 w' A [0, 1, 2] ∧ 3 ≤ c ∧ Ext W w') := fun W => (chFirst_any 3 W).mono fun e w' ⟨A, c, he, hs, hc, hx, _⟩ => ⟨A, c, he, hs, hc, hx⟩
  have HWO : Hid (∀ W A c G, Sl i64 W A [0, 1, 2] → 3 ≤ c → Sl i64 W G [1] → Calls Try.prog 41 #[.agg #[.int .i64 1, .slice A 3 c], .slice G 1 1] W fun e w' => ∃ A c, e = .returned (.tuple #[.agg #[.int .i64 2, .slice A 2 c], .int .i64 0]) ∧ Sl i64 w' A [0, 2] ∧ 2 ≤ c ∧ Ext W w') := fun W A c G h1 h2 h3 =>
    (without_any 1 A G c 1 [0, 1, 2] [1] W (by decide) h2 (by decide) h1 h3).mono fun e w' ⟨A, c, he, hs, hc, hx, _⟩ => ⟨A, c, he, hs, hc, hx⟩
  have HWI : Hid (∀ W A c, Sl i64 W A [0, 2] → 2 ≤ c → Calls Try.prog 40 #[.agg #[.int .i64 2, .slice A 2 c], .int .i64 3] W fun e w' => ∃ A c, e = .returned (.tuple #[.agg #[.int .i64 3, .slice A 3 c], .int .i64 0]) ∧ Sl i64 w' A [0, 2, 3] ∧ 3 ≤ c ∧ Ext W w') := fun W A c h1 h2 =>
    (with_any 2 3 A c [0, 2] W (by decide) h2 h1).mono fun e w' ⟨A, c, he, hs, hc, hx, _⟩ => ⟨A, c, he, hs, hc, hx⟩
  go_enter Try.func45, Try.ntmps45
  go_wp2_with fail
  go_at_call 37
  with_reducible refine (HF.out _).mono ?_
  rintro e w1 ⟨A1, c1, rfl, hs1, hc1, hx1⟩
  have X1 := Lib.hid hx1
  have S1 := Lib.hid hs1
  have C1 := Lib.hid hc1
  clear hx1 hs1 hc1
  go_wp2_with fail
  obtain ⟨W2, hW2⟩ : ∃ W2, W2 = (((w1.alloc (.cells #[.int .i64 1, .slice A1 3 c1] 50)).alloc (.cells #[.int .i64 0, .int .i64 2, .int .i64 3] 3)).alloc (.cells #[.int .i64 2, .slice (some ⟨w1.heap.size + 1, 0, none⟩) 3 3] 50)).alloc (.cells #[.int .i64 1] 3) := ⟨_, rfl⟩
  have x12 : Ext w1 W2 := by rw [hW2]; exact Ext.trans (Ext.trans (Ext.trans (ext_al _ _) (ext_al _ _)) (ext_al _ _)) (ext_al _ _)
  have B1 : Blk W2 w1.heap.size 50 #[.int .i64 1, .slice A1 3 c1] := by rw [hW2]; exact (((Blk.new w1 _ _).alloc _).alloc _).alloc _
  have B2 : Blk W2 (w1.heap.size + 1) 3 #[.int .i64 0, .int .i64 2, .int .i64 3] := by rw [hW2]; exact ((Blk.new' _ _ _ _ (by simp)).alloc _).alloc _
  have B3 : Blk W2 (w1.heap.size + 1 + 1) 50 #[.int .i64 2, .slice (some ⟨w1.heap.size + 1, 0, none⟩) 3 3] := by rw [hW2]; exact (Blk.new' _ _ _ _ (by simp)).alloc _
  have B4 : Blk W2 (w1.heap.size + 1 + 1 + 1) 3 #[.int .i64 1] := by rw [hW2]; exact Blk.new' _ _ _ _ (by simp)
  have S2 : Hid (Sl i64 W2 (some ⟨w1.heap.size + 1, 0, none⟩) [0, 2, 3]) := Sl.of_blk B2 (fun j v hj => by match j, hj with | 0, hj => (simp at hj; subst hj; rfl) | 1, hj => (simp at hj; subst hj; rfl) | 2, hj => (simp at hj; subst hj; rfl))
  have S0 : Hid (Sl i64 W2 (some ⟨w1.heap.size + 1 + 1 + 1, 0, none⟩) [1]) := Sl.of_blk B4 (fun j v hj => by match j, hj with | 0, hj => (simp at hj; subst hj; rfl))
  have HB1 := Lib.hid B1
  have HB3 := Lib.hid B3
  have X12 := Lib.hid x12
  rw [← hW2]
  clear hW2 B1 B2 B3 B4 x12
  have S1b : Hid (Sl i64 W2 A1 [0, 1, 2]) := S1.out.stay X12.out
  go_at_call 41
  with_reducible refine (HWO.out _ _ _ _ S1b.out C1.out S0.out).mono ?_
  rintro e w2 ⟨A2, c2, rfl, hs2, hc2, hx2⟩
  have X2 := Lib.hid hx2
  have S3 := Lib.hid hs2
  have C2 := Lib.hid hc2
  clear hx2 hs2 hc2
  go_wp2_with fail
  obtain ⟨W3, hW3⟩ : ∃ W3, W3 = w2.alloc (.cells #[.int .i64 2, .slice A2 2 c2] 50) := ⟨_, rfl⟩
  have x23 : Ext w2 W3 := by rw [hW3]; exact ext_al _ _
  have B5 : Blk W3 w2.heap.size 50 #[.int .i64 2, .slice A2 2 c2] := by rw [hW3]; exact Blk.new w2 _ _
  have HB5 := Lib.hid B5
  have X23 := Lib.hid x23
  rw [← hW3]
  clear hW3 B5 x23
  have S3b : Hid (Sl i64 W3 A2 [0, 2]) := S3.out.stay X23.out
  go_at_call 40
  with_reducible refine (HWI.out _ _ _ S3b.out C2.out).mono ?_
  rintro e w3 ⟨A3, c3, rfl, hs3, hc3, hx3⟩
  have X3 := Lib.hid hx3
  have S4 := Lib.hid hs3
  have C3 := Lib.hid hc3
  clear hx3 hs3 hc3
  obtain ⟨W4, hW4⟩ : ∃ W4, W4 = w3.alloc (.cells #[.int .i64 3, .slice A3 3 c3] 50) := ⟨_, rfl⟩
  have x34 : Ext w3 W4 := by rw [hW4]; exact ext_al _ _
  have x24 : Ext W2 W4 := Ext.trans X2.out (Ext.trans X23.out (Ext.trans X3.out x34))
  have hc1 := C1.out
  have s1 : ∀ W, Ext W4 W → Sl i64 W A1 [0, 1, 2] := fun W h => S1.out.stay (Ext.trans X12.out (Ext.trans x24 h))
  have s2 : ∀ W, Ext W4 W → Sl i64 W (some ⟨w1.heap.size + 1, 0, none⟩) [0, 2, 3] := fun W h => S2.out.stay (Ext.trans x24 h)
  have s4 : ∀ W, Ext W4 W → Sl i64 W A3 [0, 2, 3] := fun W h => S4.out.stay (Ext.trans x34 h)
  have H0 : Hid (∀ W, Ext W4 W → Calls Try.prog 43 #[.agg #[.int .i64 1, .slice A1 3 c1], .agg #[.int .i64 2, .slice (some ⟨w1.heap.size + 1, 0, none⟩) 3 3], .int .i64 5] W fun e w' => e = .returned (.bool true) ∧ Ext W w') := fun W h => chNext_any 1 2 5 A1 (some ⟨w1.heap.size + 1, 0, none⟩) c1 3 [0, 1, 2] [0, 2, 3] W (by decide) (by decide) hc1 (by decide) (s1 W h) (s2 W h)
  have H1 : Hid (∀ W, Ext W4 W → Calls Try.prog 43 #[.agg #[.int .i64 1, .slice A1 3 c1], .agg #[.int .i64 2, .slice (some ⟨w1.heap.size + 1, 0, none⟩) 3 3], .int .i64 3] W fun e w' => e = .returned (.bool false) ∧ Ext W w') := fun W h => chNext_any 1 2 3 A1 (some ⟨w1.heap.size + 1, 0, none⟩) c1 3 [0, 1, 2] [0, 2, 3] W (by decide) (by decide) hc1 (by decide) (s1 W h) (s2 W h)
  have H2 : Hid (∀ W, Ext W4 W → Calls Try.prog 42 #[.agg #[.int .i64 3, .slice A3 3 c3]] W fun e w' => e = .returned (.int .i64 3) ∧ Ext W w') := fun W h => tail_any 3 A3 c3 [0, 2, 3] W (by decide) (s4 W h)
  have H3 : Hid (∀ W, Ext W4 W → Calls Try.prog 51 #[.agg #[.int .i64 1, .slice A1 3 c1]] W fun e w' => e = .returned (.int .i64 0) ∧ Ext W w') := fun W h => head_any 1 A1 c1 [0, 1, 2] W (by decide) (s1 W h)
  have H4 : Hid (∀ W, Ext W4 W → Calls Try.prog 38 #[.agg #[.int .i64 1, .slice A1 3 c1], .int .i64 1] W fun e w' => e = .returned (.int .i64 0) ∧ Ext W w') := fun W h => above_any 1 1 A1 c1 [0, 1, 2] W (by decide) (s1 W h)
  have H5 : Hid (∀ W, Ext W4 W → Calls Try.prog 52 #[.agg #[.int .i64 1, .slice A1 3 c1], .int .i64 2] W fun e w' => e = .returned (.int .i64 (-1)) ∧ Ext W w') := fun W h => below_any 1 2 A1 c1 [0, 1, 2] W (by decide) (s1 W h)
  have H6 : Hid (∀ W, Ext W4 W → Calls Try.prog 39 #[.agg #[.int .i64 1, .slice A1 3 c1], .int .i64 2] W fun e w' => e = .returned (.bool true) ∧ Ext W w') := fun W h => has_any 1 A1 c1 [0, 1, 2] 2 W (by decide) (s1 W h)
  have H7 : Hid (∀ W, Ext W4 W → Calls Try.prog 49 #[.agg #[.int .i64 1, .slice A1 3 c1], .agg #[.int .i64 2, .slice (some ⟨w1.heap.size + 1, 0, none⟩) 3 3]] W fun e w' => e = .returned (.bool false) ∧ Ext W w') := fun W h => same_ch 1 2 A1 (some ⟨w1.heap.size + 1, 0, none⟩) c1 3 [0, 1, 2] [0, 2, 3] W (by decide) (by decide) (s1 W h) (s2 W h)
  have k1 : Blk W4 w1.heap.size 50 #[.int .i64 1, .slice A1 3 c1] := HB1.out.stay x24
  have k3 : Blk W4 (w1.heap.size + 1 + 1) 50 #[.int .i64 2, .slice (some ⟨w1.heap.size + 1, 0, none⟩) 3 3] := HB3.out.stay x24
  have k5 : Blk W4 w2.heap.size 50 #[.int .i64 2, .slice A2 2 c2] := HB5.out.stay (Ext.trans X3.out x34)
  have k7 : Blk W4 w3.heap.size 50 #[.int .i64 3, .slice A3 3 c3] := by rw [hW4]; exact Blk.new w3 _ _
  have HX : Hid (Ext w W4) := Ext.trans (Ext.trans X1.out X12.out) x24
  have HW4 := Lib.hid hW4
  clear hW4 s1 s2 s4 x34 x24 hc1
  have fa0 : ∀ W, Ext W4 W → W.cell? ⟨w1.heap.size, 0, none⟩ = some (.int .i64 1) := fun W h => (k1.stay h).cell 0
  have fa1 : ∀ W, Ext W4 W → W.cell? ⟨w1.heap.size, 1, none⟩ = some (.slice A1 3 c1) := fun W h => (k1.stay h).cell 1
  have fb0 : ∀ W, Ext W4 W → W.cell? ⟨w1.heap.size + 1 + 1, 0, none⟩ = some (.int .i64 2) := fun W h => (k3.stay h).cell 0
  have fb1 : ∀ W, Ext W4 W → W.cell? ⟨w1.heap.size + 1 + 1, 1, none⟩ = some (.slice (some ⟨w1.heap.size + 1, 0, none⟩) 3 3) := fun W h => (k3.stay h).cell 1
  have fc0 : ∀ W, Ext W4 W → W.cell? ⟨w2.heap.size, 0, none⟩ = some (.int .i64 2) := fun W h => (k5.stay h).cell 0
  have fc1 : ∀ W, Ext W4 W → W.cell? ⟨w2.heap.size, 1, none⟩ = some (.slice A2 2 c2) := fun W h => (k5.stay h).cell 1
  have fd0 : ∀ W, Ext W4 W → W.cell? ⟨w3.heap.size, 0, none⟩ = some (.int .i64 3) := fun W h => (k7.stay h).cell 0
  have fd1 : ∀ W, Ext W4 W → W.cell? ⟨w3.heap.size, 1, none⟩ = some (.slice A3 3 c3) := fun W h => (k7.stay h).cell 1
  have h4 : Ext W4 W4 := Ext.refl _
  have q1 : ∀ o, Blk (w3.alloc o) w1.heap.size 50 #[.int .i64 1, .slice A1 3 c1] := fun o => (HB1.out.stay (Ext.trans X2.out (Ext.trans X23.out X3.out))).alloc o
  have q3 : ∀ o, Blk (w3.alloc o) (w1.heap.size + 1 + 1) 50 #[.int .i64 2, .slice (some ⟨w1.heap.size + 1, 0, none⟩) 3 3] := fun o => (HB3.out.stay (Ext.trans X2.out (Ext.trans X23.out X3.out))).alloc o
  have ea0 : ∀ o, (w3.alloc o).cell? ⟨w1.heap.size, 0, none⟩ = some (.int .i64 1) := fun o => (q1 o).cell 0
  have ea1 : ∀ o, (w3.alloc o).cell? ⟨w1.heap.size, 1, none⟩ = some (.slice A1 3 c1) := fun o => (q1 o).cell 1
  have eb0 : ∀ o, (w3.alloc o).cell? ⟨w1.heap.size + 1 + 1, 0, none⟩ = some (.int .i64 2) := fun o => (q3 o).cell 0
  have eb1 : ∀ o, (w3.alloc o).cell? ⟨w1.heap.size + 1 + 1, 1, none⟩ = some (.slice (some ⟨w1.heap.size + 1, 0, none⟩) 3 3) := fun o => (q3 o).cell 1
  clear k1 k3 k5 k7 q1 q3
  go_wp2_with (first
    | (go_at_call 43; rw [← HW4.out]; (with_reducible refine (H0.out _ (Ext.refl _)).mono ?_); rintro e w5 ⟨rfl, hx⟩; have h5 : Ext W4 w5 := hx; clear hx)
    | (go_at_call 43; (with_reducible refine (H1.out _ h5).mono ?_); rintro e w6 ⟨rfl, hx⟩; have h6 : Ext W4 w6 := Ext.trans h5 hx; clear hx)
    | (go_at_call 42; (with_reducible refine (H2.out _ h6).mono ?_); rintro e w7 ⟨rfl, hx⟩; have h7 : Ext W4 w7 := Ext.trans h6 hx; clear hx)
    | (go_at_call 51; (with_reducible refine (H3.out _ h7).mono ?_); rintro e w8 ⟨rfl, hx⟩; have h8 : Ext W4 w8 := Ext.trans h7 hx; clear hx)
    | (go_at_call 38; (with_reducible refine (H4.out _ h8).mono ?_); rintro e w9 ⟨rfl, hx⟩; have h9 : Ext W4 w9 := Ext.trans h8 hx; clear hx)
    | (go_at_call 52; (with_reducible refine (H5.out _ h9).mono ?_); rintro e w10 ⟨rfl, hx⟩; have h10 : Ext W4 w10 := Ext.trans h9 hx; clear hx)
    | (go_at_call 39; (with_reducible refine (H6.out _ h10).mono ?_); rintro e w11 ⟨rfl, hx⟩; have h11 : Ext W4 w11 := Ext.trans h10 hx; clear hx)
    | (go_at_call 49; (with_reducible refine (H7.out _ h11).mono ?_); rintro e w12 ⟨rfl, hx⟩; have h12 : Ext W4 w12 := Ext.trans h11 hx; clear hx))
  try go_ret
  exact hD.out _ _ ⟨rfl, Ext.trans HX.out h12⟩
end Go.Proofs.Ytdjkopdgapifpaa
