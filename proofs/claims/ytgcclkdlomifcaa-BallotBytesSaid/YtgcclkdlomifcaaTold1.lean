/-
  The told rows of the laws of chapter 1.
-/
import Derived.Test.YtgcclkdlomifcaaCrc
namespace Go.Proofs.Ytgcclkdlomifcaa
set_option linter.unusedVariables false
set_option linter.unusedSimpArgs false
open Go.RowKit

theorem WrTo.low {w w' : World} {base P : Nat} {l : List UInt8} {g : Option Nat} {B : Nat} (h : WrTo w w' base P l g) (hP : B ≤ P) (hg : ∀ k, g = some k → B ≤ k) (hB : B ≤ w.heap.size) : Below B w w' := by
  obtain ⟨g', _, h2, _⟩ := h
  exact h2.below hB (fun k hk => by
    rcases hk with hk | hk
    · omega
    · exact hg k hk.symm)

theorem kcP (w : World) (C : Array Value) (n c : Nat) : (convert 22 22 (.slice (some ⟨w.heap.size, 0, none⟩) n c)).run Try.prog (w.alloc (.cells C 5)) = .ok (.slice (some ⟨w.heap.size, 0, none⟩) n c) (w.alloc (.cells C 5 (C.size, C.size + 1))) :=
  Lib.run_convert_bytes_const (P := Try.prog) w _ _ C n c Try.underlying22 Try.underlying5
theorem sl_constP (w : World) (b : List UInt8) (m : Nat × Nat) : Sl u8 (w.alloc (.cells (b.map u8).toArray 5 m)) (some ⟨w.heap.size, 0, none⟩) b := fun j v hj =>
  ⟨_, 0, rfl, by rw [Nat.zero_add, World.cell?_alloc_mark]; simp [hj]⟩
theorem crc_const : crcN [49, 50, 51, 52, 53, 54, 55, 56, 57] = 3421780262 := by decide +kernel

set_option maxRecDepth 8000 in
set_option maxHeartbeats 8000000 in
theorem told1 (w : World) : Calls Try.prog 21 #[] w fun e w' => e = .returned (.bool true) ∧ Ext w w' := by
  refine hide_post fun D hD => ?_
  obtain ⟨W0, hW0⟩ : ∃ W0, W0 = w.alloc (.cells #[.slice none 0 0] 59) := ⟨_, rfl⟩
  have x0 : Ext w W0 := by rw [hW0]; exact Ext.alloc _ _
  have H0 : WrAt W0 w.heap.size w.heap.size [] none := by rw [hW0]; exact ⟨.slice none 0 0, Blk.new _ _ _, World.ownsRow_nil _ _ _ _, rfl⟩
  have hz0 : w.heap.size ≤ W0.heap.size := x0.size
  have C1 : Hid (Calls Try.prog 62 #[.pointer (some ⟨w.heap.size, 0, none⟩), .int .u64 300] W0 fun e w' => e = .returned (.tuple #[]) ∧ WrTo W0 w' w.heap.size w.heap.size [172, 2] none) := numW_any w.heap.size w.heap.size [] none 300 W0 H0 (by decide) (by simp) hz0
  have HX0 := Lib.hid x0
  have HW0 := Lib.hid hW0
  clear x0 H0 hW0 hz0
  go_enter Try.func21, Try.ntmps21
  go_wp2_with fail
  rw [← HW0.out]
  go_at_call 62
  with_reducible refine C1.out.mono ?_
  rintro e w1 ⟨rfl, h1⟩
  have b1 : Below w.heap.size w w1 := Below.trans HX0.out (h1.low (Nat.le_refl _) (by simp) HX0.out.size)
  obtain ⟨g1, k1, _, _⟩ := h1
  have C2 : Hid (Calls Try.prog 63 #[.pointer (some ⟨w.heap.size, 0, none⟩), .string ⟨#[97, 98]⟩] w1 fun e w' => e = .returned (.tuple #[]) ∧ WrTo w1 w' w.heap.size w.heap.size [172, 2, 2, 97, 98] g1) := textW_any w.heap.size w.heap.size [172, 2] g1 ⟨#[97, 98]⟩ w1 k1 (by decide) (by simp) b1.size
  have G1 := Lib.hid k1.glt
  have B1 := Lib.hid b1
  clear k1 b1 C1
  go_wp2_with fail
  go_at_call 63
  with_reducible refine C2.out.mono ?_
  rintro e w2 ⟨rfl, h1⟩
  have b1 : Below w.heap.size w w2 := Below.trans B1.out (h1.low (Nat.le_refl _) (fun k hk => (G1.out k hk).1) B1.out.size)
  obtain ⟨g2, k1, _, _⟩ := h1
  have C3 : Hid (Calls Try.prog 64 #[.pointer (some ⟨w.heap.size, 0, none⟩), .bool true] w2 fun e w' => e = .returned (.tuple #[]) ∧ WrTo w2 w' w.heap.size w.heap.size [172, 2, 2, 97, 98, 1] g2) := yesW_any w.heap.size w.heap.size [172, 2, 2, 97, 98] g2 true w2 k1 (by simp) b1.size
  have G2 := Lib.hid k1.glt
  have B2 := Lib.hid b1
  clear k1 b1 C2
  go_wp2_with fail
  go_at_call 64
  with_reducible refine C3.out.mono ?_
  rintro e w3 ⟨rfl, h1⟩
  have b1 : Below w.heap.size w w3 := Below.trans B2.out (h1.low (Nat.le_refl _) (fun k hk => (G2.out k hk).1) B2.out.size)
  obtain ⟨g3, k1, _, _⟩ := h1
  have C4 : Hid (Calls Try.prog 34 #[.pointer (some ⟨w.heap.size, 0, none⟩)] w3 fun e w' => ∃ A cap, e = .returned (.slice A 6 cap) ∧ w'.ownsRow w3.heap.size 5 1 (.slice A 6 cap) 6 (([172, 2, 2, 97, 98, 1] : List UInt8).map u8) ∧ Ext w3 w') := bytes_any w.heap.size w.heap.size [172, 2, 2, 97, 98, 1] g3 w3 k1 (by simp)
  have B3 := Lib.hid b1
  clear k1 b1 C3
  go_wp2_with fail
  go_at_call 34
  with_reducible refine C4.out.mono ?_
  rintro e w4 ⟨A, cap, rfl, ho, hx⟩
  have hsl : Sl u8 w4 A [172, 2, 2, 97, 98, 1] := by
    obtain ⟨A', c', e, hs⟩ := own_view (l := ([172, 2, 2, 97, 98, 1] : List UInt8)) ho
    injection e with e1 e2 e3
    subst e1
    exact hs
  have B4 : Hid (Below w.heap.size w w4) := Below.trans B3.out (Below.mono hx B3.out.size)
  have C5 : Hid (Calls Try.prog 22 #[.slice A 6 cap] w4 fun e w' => ∃ P, e = .returned (.pointer (some ⟨P, 0, none⟩)) ∧ RdAt w' P [172, 2, 2, 97, 98, 1] false ∧ Ext w4 w' ∧ w4.heap.size ≤ P) := new_any A cap [172, 2, 2, 97, 98, 1] w4 hsl (by simp)
  have S4 := Lib.hid hsl
  clear ho hx hsl C4
  go_wp2_with fail
  go_at_call 22
  with_reducible refine C5.out.mono ?_
  rintro e w5 ⟨R, rfl, hr, hx, hR⟩
  have hcv : (convert 22 9 (.slice A 6 cap)).run Try.prog w5 = .ok (.string ⟨#[172, 2, 2, 97, 98, 1]⟩) w5 := run_str (P := Try.prog) (w := w5) 22 9 5 A [172, 2, 2, 97, 98, 1] cap Try.underlying22 Try.underlying5 Try.underlying9 (S4.out.stay hx)
  have B5 : Hid (Below w.heap.size w w5) := Below.trans B4.out (Below.mono hx B4.out.size)
  have HRw : Hid (w.heap.size ≤ R) := Nat.le_trans B4.out.size hR
  have C6 : Hid (Calls Try.prog 23 #[.pointer (some ⟨R, 0, none⟩), .int .u64 300] w5 fun e w' => e = .returned (.int .u64 300) ∧ RdAt w' R [2, 97, 98, 1] false ∧ Frm (fun k => k = R) w5 w') := numR_any R [172, 2, 2, 97, 98, 1] false 300 w5 hr (by simp)
  clear hr hx hR C5
  go_wp2_with fail
  go_at_call 23
  with_reducible refine C6.out.mono ?_
  rintro e w6 ⟨rfl, hr, hf⟩
  have B6 : Hid (Below w.heap.size w w6) := Below.trans B5.out (hf.below B5.out.size (fun k hk => by have := HRw.out; omega))
  have C7 : Hid (Calls Try.prog 25 #[.pointer (some ⟨R, 0, none⟩), .int .i64 2] w6 fun e w' => e = .returned (.string ⟨#[97, 98]⟩) ∧ RdAt w' R [1] false ∧ Frm (fun k => k = R) w6 w') := textR_any R [2, 97, 98, 1] false 2 2 w6 (.inl rfl) hr (by simp) (by decide)
  clear hr hf C6 hcv
  go_wp2_with fail
  go_at_call 25
  with_reducible refine C7.out.mono ?_
  rintro e w7 ⟨rfl, hr, hf⟩
  have B7 : Hid (Below w.heap.size w w7) := Below.trans B6.out (hf.below B6.out.size (fun k hk => by have := HRw.out; omega))
  have C8 : Hid (Calls Try.prog 27 #[.pointer (some ⟨R, 0, none⟩)] w7 fun e w' => e = .returned (.bool true) ∧ RdAt w' R [] false ∧ Frm (fun k => k = R) w7 w') := yesR_any R [1] false w7 hr (by simp)
  clear hr hf C7
  go_wp2_with fail
  go_at_call 27
  with_reducible refine C8.out.mono ?_
  rintro e w8 ⟨rfl, hr, hf⟩
  have B8 : Hid (Below w.heap.size w w8) := Below.trans B7.out (hf.below B7.out.size (fun k hk => by have := HRw.out; omega))
  have C9 : Hid (Calls Try.prog 29 #[.pointer (some ⟨R, 0, none⟩)] w8 fun e w' => e = .returned (.int .i64 0) ∧ w8 = w') := endR_any R [] false w8 hr (by simp)
  have C10 : Hid (∀ w, Calls Try.prog 59 #[.slice (some ⟨w.heap.size, 0, none⟩) 9 9] (w.alloc (.cells #[.int .u8 49, .int .u8 50, .int .u8 51, .int .u8 52, .int .u8 53, .int .u8 54, .int .u8 55, .int .u8 56, .int .u8 57] 5 (9, 10))) fun e w' => e = .returned (.int .u32 3421780262) ∧ Ext w w') := fun w => by
    have := crc_any (some ⟨w.heap.size, 0, none⟩) 9 [49, 50, 51, 52, 53, 54, 55, 56, 57] _ (sl_constP w [49, 50, 51, 52, 53, 54, 55, 56, 57] (9, 10)) (by simp)
    rw [crc_const] at this
    exact this.mono fun e w' ⟨he, hx⟩ => ⟨he, Ext.trans (Ext.alloc _ _) hx⟩
  have C11 : Hid (∀ w, Calls Try.prog 22 #[.slice none 0 0] w fun e w' => ∃ P, e = .returned (.pointer (some ⟨P, 0, none⟩)) ∧ RdAt w' P [] false ∧ Ext w w' ∧ w.heap.size ≤ P) := fun w => new_any none 0 [] w (Sl.nil _ _ _) (by simp)
  have C12 : Hid (∀ w P, RdAt w P [] false → Calls Try.prog 23 #[.pointer (some ⟨P, 0, none⟩), .int .u64 5] w fun e w' => e = .returned (.int .u64 0) ∧ Frm (fun k => k = P) w w') := fun w P h => (numR_any P [] false 5 w h (by simp)).mono fun e w' ⟨he, _, hf⟩ => ⟨he, hf⟩
  have kc := kcP
  clear hr hf C8
  go_wp2_with (first
    | (go_at_call 29; (with_reducible refine C9.out.mono ?_); rintro e w9 ⟨rfl, rfl⟩)
    | (go_at_call 59; (with_reducible refine (C10.out _).mono ?_); rintro e w10 ⟨rfl, hx⟩; have B10 : Hid (Below w.heap.size w w10) := Below.trans B8.out (Below.mono hx B8.out.size); clear hx)
    | (go_at_call 22; (with_reducible refine (C11.out _).mono ?_); rintro e w11 ⟨R2, rfl, hr, hx, hR2⟩; have B11 : Hid (Below w.heap.size w w11) := Below.trans B10.out (Below.mono hx B10.out.size); have HR2 : Hid (w.heap.size ≤ R2) := Nat.le_trans B10.out.size hR2; have K2 := Lib.hid hr; clear hx hr hR2)
    | (go_at_call 23; (with_reducible refine (C12.out _ _ K2.out).mono ?_); rintro e w12 ⟨rfl, hf⟩; have B12 : Hid (Below w.heap.size w w12) := Below.trans B11.out (hf.below B11.out.size (fun k hk => by have := HR2.out; omega)); clear hf))
  try go_ret
  exact hD.out _ _ ⟨rfl, B12.out⟩
end Go.Proofs.Ytgcclkdlomifcaa
