/-
  The law package's own small questions of package tally: answered yes.
-/
import Derived.Test.YtkdcbidbciognaaTally3
namespace Go.Proofs.Ytkdcbidbciognaa
set_option linter.unusedVariables false
set_option linter.unusedSimpArgs false
open Go.RowKit

theorem Frm.of_keep {K : Nat → Prop} {base : Nat} {w w' : World} (h : Keep K w w') (hb : Below base w w') : Frm (fun k => ¬ K k) w w' :=
  ⟨hb.os, hb.tape, hb.output, hb.size, fun k hk hn => h k (Classical.not_not.1 hn)⟩

set_option maxHeartbeats 16000000 in
theorem told_tally (w : World) : Calls Try.prog 11 #[] w fun e w' => e = .returned (.bool true) ∧ Below w.heap.size w w' := by
  refine hide_post fun D hD => ?_
  obtain ⟨w0, hw0⟩ : ∃ w0, w0 = (((w.alloc (.cells #[.int .i64 0] 3)).alloc (.cells #[.int .i64 2, .slice (some ⟨w.heap.size, 0, none⟩) 1 1] 26)).alloc (.cells #[.int .i64 5, .int .i64 1] 23)) := ⟨_, rfl⟩
  have hb0 : Ext w w0 := by rw [hw0]; exact (((Below.refl _ _).alloc (Nat.le_refl _) _).alloc (by simp) _).alloc (by simp; omega) _
  have hz0 : w0.heap.size = w.heap.size + 1 + 1 + 1 := by rw [hw0]; simp
  have ks : Blk w0 w.heap.size 3 #[.int .i64 0] := by rw [hw0]; exact ((Blk.new _ _ _).alloc _).alloc _
  have KC : Hid (Blk w0 (w.heap.size + 1) 26 #[.int .i64 2, .slice (some ⟨w.heap.size, 0, none⟩) 1 1]) := by show Blk _ _ _ _; rw [hw0]; exact (Blk.new' _ _ _ _ (by simp)).alloc _
  have KB : Hid (Blk w0 (w.heap.size + 1 + 1) 23 #[.int .i64 5, .int .i64 1]) := by show Blk _ _ _ _; rw [hw0]; exact Blk.new' _ _ _ _ (by simp)
  have HNEW : Hid (Calls Try.prog 12 #[.int .i64 3, .agg #[.int .i64 5, .int .i64 1], .agg #[.int .i64 2, .slice (some ⟨w.heap.size, 0, none⟩) 1 1]] w0 fun e w' => ∃ P, e = .returned (.tuple #[.pointer (some ⟨P, 0, none⟩), .int .i64 0]) ∧ Ext w0 w' ∧ TAt w' w0.heap.size P (fun k => k < w0.heap.size) (⟨3, 5, 1, 2, [0], [], [], false, 0, 0, 0, []⟩ : TV)) :=
    new_ok 3 5 1 2 (some ⟨w.heap.size, 0, none⟩) 1 [0] w0 (by omega) (by decide) (by decide) (by simp) (by simp) (Sl.of_blk ks (fun j v hj => by match j, hj with | 0, hj => (simp at hj; subst hj; rfl)))
  have HP1 : Hid (∀ (w1 : World) (P : Nat), TAt w1 w0.heap.size P (fun k => k < w0.heap.size) (⟨3, 5, 1, 2, [0], [], [], false, 0, 0, 0, []⟩ : TV) → Calls Try.prog 17 #[.pointer (some ⟨P, 0, none⟩), .int .i64 0, .agg #[.int .i64 5, .int .i64 1, .int .i64 0, .int .i64 0, .bool false, .int .i64 0, .slice none 0 0]] ((w1.alloc (.cells #[.int .i64 1] 3)).alloc (.cells #[.int .i64 2, .slice (some ⟨w1.heap.size, 0, none⟩) 1 1] 26)) fun e w' => e = .returned (.bool true) ∧ TAt w' w0.heap.size P (fun k => k < w0.heap.size ∨ (w1.heap.size ≤ k ∧ k < w1.heap.size + 1 + 1)) (⟨3, 5, 1, 2, [0], [0], [], false, 0, 0, 0, []⟩ : TV) ∧ Keep (fun k => k < w0.heap.size ∨ (w1.heap.size ≤ k ∧ k < w1.heap.size + 1 + 1)) ((w1.alloc (.cells #[.int .i64 1] 3)).alloc (.cells #[.int .i64 2, .slice (some ⟨w1.heap.size, 0, none⟩) 1 1] 26)) w' ∧ Below w0.heap.size ((w1.alloc (.cells #[.int .i64 1] 3)).alloc (.cells #[.int .i64 2, .slice (some ⟨w1.heap.size, 0, none⟩) 1 1] 26)) w') := fun w1 P H => by
    have hm := H.more (w' := ((w1.alloc (.cells #[.int .i64 1] 3)).alloc (.cells #[.int .i64 2, .slice (some ⟨w1.heap.size, 0, none⟩) 1 1] 26))) (((Below.refl _ _).alloc (Nat.le_refl _) _).alloc (by simp) _)
    simp only [World.size_alloc] at hm
    exact prom_ff w0.heap.size P _ 3 5 1 2 [0] [] [] 0 0 0 [] 0 0 0 0 none 0 [] _ hm (by omega) (by omega) (by simp) (by simp)
  have HP2 : Hid (∀ (W w1 : World) (P : Nat), TAt W w0.heap.size P (fun k => k < w0.heap.size ∨ (w1.heap.size ≤ k ∧ k < w1.heap.size + 1 + 1)) (⟨3, 5, 1, 2, [0], [0], [], false, 0, 0, 0, []⟩ : TV) → Blk W w1.heap.size 3 #[.int .i64 1] → Calls Try.prog 17 #[.pointer (some ⟨P, 0, none⟩), .int .i64 1, .agg #[.int .i64 5, .int .i64 1, .int .i64 3, .int .i64 0, .bool true, .int .i64 2, .slice (some ⟨w1.heap.size, 0, none⟩) 1 1]] W fun e w' => e = .returned (.bool true) ∧ TAt w' w0.heap.size P (fun k => k < w0.heap.size ∨ (w1.heap.size ≤ k ∧ k < w1.heap.size + 1 + 1)) (⟨3, 5, 1, 2, [0], [0, 1], [], true, 3, 0, 2, [1]⟩ : TV) ∧ Keep (fun k => k < w0.heap.size ∨ (w1.heap.size ≤ k ∧ k < w1.heap.size + 1 + 1)) W w' ∧ Below w0.heap.size W w') := fun W w1 P H hk => by
    have := prom_tf w0.heap.size P _ 3 5 1 2 [0] [0] [] 0 0 0 [] 1 3 0 2 (some ⟨w1.heap.size, 0, none⟩) 1 [1] W H (by omega) (by omega) (by simp) (by simp) (by decide) (by decide) (by simp) (by simp) (Sl.of_blk hk (fun j v hj => by match j, hj with | 0, hj => (simp at hj; subst hj; rfl))) (fun a ha => by injection ha with ha; subst ha; exact Or.inr ⟨Nat.le_refl _, by simp; omega⟩) rfl
    exact this
  have HR : Hid (∀ (W : World) (P : Nat) (K : Nat → Prop) (v : TV) (b : Bool), TAt W w0.heap.size P K v → v.n = 3 → decide (mostI 3 ≤ v.pl.length) = b → Calls Try.prog 21 #[.pointer (some ⟨P, 0, none⟩)] W fun e w' => e = .returned (.bool b) ∧ Ext W w') := fun W P K v b H hn hb => by
    have := ready_any _ P K v W H (by omega)
    rw [hn, hb] at this
    exact this
  have HB0 := Lib.hid hb0
  have HW0 := Lib.hid hw0
  have HZ0 := Lib.hid hz0
  clear hb0 hw0 hz0 ks
  go_enter Try.func11, Try.ntmps11
  go_wp2_with (first
    | (go_at_call 12; rw [← HW0.out]; (with_reducible refine HNEW.out.mono ?_); rintro e w1 ⟨P, rfl, hx, ht⟩; have b0 := (KB.out.stay hx).cell 0; have b1 := (KB.out.stay hx).cell 1; have z1 : w.heap.size + 1 + 1 < w1.heap.size := (KB.out.stay hx).lt; have z2 : w.heap.size + 1 < w1.heap.size := (by omega); have T1 := Lib.hid ht; have X1 := Lib.hid hx; clear hx ht)
    | (go_at_call 17; (with_reducible refine (HP1.out _ _ T1.out).mono ?_); rintro e w3 ⟨rfl, ht, hk, hb⟩; have T3 := Lib.hid ht; have B3 := Lib.hid hb; have D3 := Lib.hid ((Blk.new' (w1.alloc (.cells #[.int .i64 1] 3)) 26 #[.int .i64 2, .slice (some ⟨w1.heap.size, 0, none⟩) 1 1] (w1.heap.size + 1) (by simp)).keep hk (Or.inr ⟨by omega, by omega⟩)); have E3 := Lib.hid (((Blk.new w1 3 #[.int .i64 1]).alloc _).keep hk (Or.inr ⟨by omega, by omega⟩)); have G3 := Lib.hid ((((KB.out.stay X1.out).alloc _).alloc _).keep hk (Or.inl (by have := HZ0.out; omega))); clear hk hb ht)
    | (go_at_call 21; (with_reducible refine (HR.out _ _ _ _ false T3.out rfl (by decide)).mono ?_); rintro e w4 ⟨rfl, hx⟩; have T4 := Lib.hid (T3.out.stay hx); have X4 := Lib.hid hx; have E4 := Lib.hid (E3.out.stay hx); have D4 := Lib.hid (D3.out.stay hx); have d0 := (D3.out.stay hx).cell 0; have d1 := (D3.out.stay hx).cell 1; have g0 := (G3.out.stay hx).cell 0; have g1 := (G3.out.stay hx).cell 1; clear hx)
    | (go_at_call 17; (with_reducible refine (HP2.out _ _ _ T4.out E4.out).mono ?_); rintro e w5 ⟨rfl, ht, hk, hb⟩; have T5 := Lib.hid ht; have B5 := Lib.hid hb; have D5 := Lib.hid (D4.out.keep hk (Or.inr ⟨by omega, by omega⟩)); have E5 := Lib.hid (E4.out.keep hk (Or.inr ⟨by omega, by omega⟩)); clear hk hb ht))
  go_wp2_with fail
  obtain ⟨KK, hKK⟩ : ∃ KK : Nat → Prop, KK = (fun k => k < w0.heap.size ∨ (w1.heap.size ≤ k ∧ k < w1.heap.size + 1 + 1)) := ⟨_, rfl⟩
  have kd : KK (w1.heap.size + 1) := by rw [hKK]; exact Or.inr ⟨by omega, by omega⟩
  have ke : KK w1.heap.size := by rw [hKK]; exact Or.inr ⟨by omega, by omega⟩
  have kb : ∀ k, ¬ KK k → w0.heap.size ≤ k := fun k hk => by
    rcases Nat.lt_or_ge k w0.heap.size with h | h
    · exact absurd (by rw [hKK]; exact Or.inl h) hk
    · exact h
  have T5k : Hid (TAt w5.drew w0.heap.size P KK (⟨3, 5, 1, 2, [0], [0, 1], [], true, 3, 0, 2, [1]⟩ : TV)) := by show TAt _ _ _ _ _; rw [hKK]; exact T5.out.stay (Ext.drewR (Ext.refl _))
  have HBW : Hid (Ext w w5) := by
    have h1 : Below w.heap.size w ((w1.alloc (.cells #[.int .i64 1] 3)).alloc (.cells #[.int .i64 2, .slice (some ⟨w1.heap.size, 0, none⟩) 1 1] 26)) := Ext.trans (Ext.trans (Ext.trans HB0.out X1.out) (Ext.alloc _ _)) (Ext.alloc _ _)
    have h2 : Below w.heap.size w w3 := h1.trans (B3.out.mono HB0.out.size)
    have h3 : Below w.heap.size w w4 := Ext.trans h2 X4.out
    exact h3.trans (B5.out.mono HB0.out.size)
  have HBZ : Hid (w0.heap.size ≤ w5.heap.size) := by
    have q1 := X1.out.size
    have q2 := B3.out.size
    have q3 := X4.out.size
    have q4 := B5.out.size
    simp only [World.size_alloc] at q2
    show w0.heap.size ≤ w5.heap.size
    omega
  have HKB := Lib.hid kb
  have E0r : Hid (Frm (fun k => ¬ KK k) w5 w5) := Frm.refl _ _
  have fd0 : ∀ W, Frm (fun k => ¬ KK k) w5 W → W.cell? ⟨w1.heap.size + 1, 0, none⟩ = some (.int .i64 2) := fun W h => (D5.out.frm h (not_not_intro kd)).cell 0
  have fd1 : ∀ W, Frm (fun k => ¬ KK k) w5 W → W.cell? ⟨w1.heap.size + 1, 1, none⟩ = some (.slice (some ⟨w1.heap.size, 0, none⟩) 1 1) := fun W h => (D5.out.frm h (not_not_intro kd)).cell 1
  have HSE : Hid (∀ W, Frm (fun k => ¬ KK k) w5 W → Sl i64 W (some ⟨w1.heap.size, 0, none⟩) [1]) := fun W h => Sl.of_blk (E5.out.frm h (not_not_intro ke)) (fun j v hj => by match j, hj with | 0, hj => (simp at hj; subst hj; rfl))
  have R1 : Hid (∀ (W : World) (v : TV) (b : Bool), TAt W w0.heap.size P KK v → v.n = 3 → decide (mostI 3 ≤ v.pl.length) = b → Calls Try.prog 21 #[.pointer (some ⟨P, 0, none⟩)] W fun e w' => e = .returned (.bool b) ∧ Frm (fun k => ¬ KK k) W w' ∧ TAt w' w0.heap.size P KK v) := fun W v b H hn hb => (HR.out W P KK v b H hn hb).mono fun _ _ ⟨he, h⟩ => ⟨he, Frm.of_below h _, H.stay h⟩
  have R2 : Hid (∀ (W : World) (v : TV) (b : Bool), TAt W w0.heap.size P KK v → v.n = 3 → decide (mostI 3 ≤ v.sl.length) = b → Calls Try.prog 22 #[.pointer (some ⟨P, 0, none⟩)] W fun e w' => e = .returned (.bool b) ∧ Frm (fun k => ¬ KK k) W w' ∧ TAt w' w0.heap.size P KK v) := fun W v b H hn hb => by
    have := done_any _ P KK v W H (by omega)
    rw [hn, hb] at this
    exact this.mono fun _ _ ⟨he, h⟩ => ⟨he, Frm.of_below h _, H.stay h⟩
  have R3 : Hid (∀ (W : World), TAt W w0.heap.size P KK (⟨3, 5, 1, 2, [0], [0, 1], [], true, 3, 0, 2, [1]⟩ : TV) → Calls Try.prog 24 #[.pointer (some ⟨P, 0, none⟩)] W fun e w' => ∃ A c, e = .returned (.agg #[.int .i64 2, .slice A 1 c]) ∧ Frm (fun k => ¬ KK k) W w' ∧ TAt w' w0.heap.size P KK (⟨3, 5, 1, 2, [0], [0, 1], [], true, 3, 0, 2, [1]⟩ : TV) ∧ Sl i64 w' A [1]) := fun W H => by
    refine (chain_any _ P KK _ W H (by simp) (by simp) 2 [1] rfl rfl).mono fun e w' ⟨u, he, ho, hb⟩ => ?_
    obtain ⟨A, c, rfl, hs⟩ := own_view ho
    exact ⟨A, c, he, Frm.of_below hb _, H.stay hb, hs⟩
  have R4 : Hid (∀ (W : World) (v : TV) (A : Option Addr) (c : Nat), TAt W w0.heap.size P KK v → Sl i64 W A [1] → Sl i64 W (some ⟨w1.heap.size, 0, none⟩) [1] → Calls Try.prog 23 #[.agg #[.int .i64 2, .slice A 1 c], .agg #[.int .i64 2, .slice (some ⟨w1.heap.size, 0, none⟩) 1 1]] W fun e w' => e = .returned (.bool true) ∧ Frm (fun k => ¬ KK k) W w' ∧ TAt w' w0.heap.size P KK v) := fun W v A c H h1 h2 =>
    (sameRef_any 2 2 A (some ⟨w1.heap.size, 0, none⟩) c 1 [1] [1] W (by simp) (by simp) h1 h2).mono fun _ _ ⟨he, h⟩ => ⟨by rw [he]; rfl, Frm.of_below h _, H.stay h⟩
  have R5 : Hid (∀ (W : World) (v : TV) (node : Int), TAt W w0.heap.size P KK v → v.n = 3 → 2 ≤ v.pl.length → 0 ≤ node → node < 3 → ¬ node ∈ v.sl → v.sl.length ≤ 5 → Calls Try.prog 19 #[.pointer (some ⟨P, 0, none⟩), .int .i64 node] W fun e w' => e = .returned (.bool true) ∧ Frm (fun k => ¬ KK k) W w' ∧ TAt w' w0.heap.size P KK { v with sl := v.sl ++ [node] }) := fun W v node H hn hp h0 h1 hi hl =>
    (yes_ok _ P KK v node W H (by omega) (by rw [hn]; show (2 : Int) ≤ _; omega) h0 (by omega) hi (by omega)).mono fun _ _ ⟨he, ht, hk, hb⟩ => ⟨he, Frm.of_keep hk hb, ht⟩
  have R6 : Hid (∀ (W : World) (v : TV) (node : Int), TAt W w0.heap.size P KK v → v.n = 3 → 2 ≤ v.pl.length → 0 ≤ node → node < 3 → node ∈ v.sl → v.sl.length ≤ 5 → Calls Try.prog 19 #[.pointer (some ⟨P, 0, none⟩), .int .i64 node] W fun e w' => e = .returned (.bool false) ∧ Frm (fun k => ¬ KK k) W w' ∧ TAt w' w0.heap.size P KK v) := fun W v node H hn hp h0 h1 hi hl =>
    (yes_no _ P KK v node W H (by omega) (by rw [hn]; show (2 : Int) ≤ _; omega) h0 (by omega) hi (by omega)).mono fun _ _ ⟨he, h⟩ => ⟨he, Frm.of_below h _, H.stay h⟩
  have R7 : Hid (∀ (W : World) (n : Int) (r : Int), -10 ≤ n → n ≤ 10 → mostI n = r → Calls Try.prog 15 #[.int .i64 n] W fun e w' => e = .returned (.int .i64 r) ∧ Frm (fun k => ¬ KK k) W w') := fun W n r h0 h1 hr => (most_any n W (by omega) (by omega)).mono fun _ _ ⟨he, h⟩ => ⟨by rw [he, hr], h ▸ Frm.refl _ _⟩
  clear hKK kd ke kb
  refine rx_begin (fun k => ¬ KK k) (by kernel_rfl) ?_
  have E0rd := Lib.hid (Frm.drew E0r.out)
  refine rx_take (i := 0) (v := ?_) rfl (by kernel_rfl) (by kernel_rfl) (by kernel_rfl) (fun _ _ _ h => h) (by rfl) ?_ ?_
  rotate_left
  · intro W hW; have hW0 := Frm.tr E0rd.out hW; clear hW; go_simp <;> with_reducible rfl
  try simp only [Act.put, List.setIfInBounds_toArray, List.set_cons_zero, List.set_cons_succ]
  refine rx_take (i := 1) (v := ?_) rfl (by kernel_rfl) (by kernel_rfl) (by kernel_rfl) (fun _ _ _ h => h) (by rfl) ?_ ?_
  rotate_left
  · intro W hW; have hW0 := Frm.tr E0rd.out hW; clear hW; go_simp <;> with_reducible rfl
  try simp only [Act.put, List.setIfInBounds_toArray, List.set_cons_zero, List.set_cons_succ]
  refine rx_take (i := 2) (v := ?_) rfl (by kernel_rfl) (by kernel_rfl) (by kernel_rfl) (fun _ _ _ h => h) (by rfl) ?_ ?_
  rotate_left
  · intro W hW; have hW0 := Frm.tr E0rd.out hW; clear hW; go_simp <;> with_reducible rfl
  try simp only [Act.put, List.setIfInBounds_toArray, List.set_cons_zero, List.set_cons_succ]
  refine rx_take (i := 3) (v := ?_) rfl (by kernel_rfl) (by kernel_rfl) (by kernel_rfl) (fun _ _ _ h => h) (by rfl) ?_ ?_
  rotate_left
  · intro W hW; have hW0 := Frm.tr E0rd.out hW; clear hW; go_simp <;> with_reducible rfl
  try simp only [Act.put, List.setIfInBounds_toArray, List.set_cons_zero, List.set_cons_succ]
  refine rx_take (i := 4) (v := ?_) rfl (by kernel_rfl) (by kernel_rfl) (by kernel_rfl) (fun _ _ _ h => h) (by rfl) ?_ ?_
  rotate_left
  · intro W hW; have hW0 := Frm.tr E0rd.out hW; clear hW; go_simp <;> with_reducible rfl
  try simp only [Act.put, List.setIfInBounds_toArray, List.set_cons_zero, List.set_cons_succ]
  refine rx_take (i := 5) (v := ?_) rfl (by kernel_rfl) (by kernel_rfl) (by kernel_rfl) (fun _ _ _ h => h) (by rfl) ?_ ?_
  rotate_left
  · intro W hW; have hW0 := Frm.tr E0rd.out hW; clear hW; go_simp <;> with_reducible rfl
  try simp only [Act.put, List.setIfInBounds_toArray, List.set_cons_zero, List.set_cons_succ]
  refine rx_take (i := 6) (v := ?_) rfl (by kernel_rfl) (by kernel_rfl) (by kernel_rfl) (fun _ _ _ h => h) (by rfl) ?_ ?_
  rotate_left
  · intro W hW; have hW0 := Frm.tr E0rd.out hW; clear hW; go_simp <;> with_reducible rfl
  try simp only [Act.put, List.setIfInBounds_toArray, List.set_cons_zero, List.set_cons_succ]
  refine rx_take (i := 7) (v := ?_) rfl (by kernel_rfl) (by kernel_rfl) (by kernel_rfl) (fun _ _ _ h => h) (by rfl) ?_ ?_
  rotate_left
  · intro W hW; have hW0 := Frm.tr E0rd.out hW; clear hW; go_simp <;> with_reducible rfl
  try simp only [Act.put, List.setIfInBounds_toArray, List.set_cons_zero, List.set_cons_succ]
  refine rx_take (i := 8) (v := ?_) rfl (by kernel_rfl) (by kernel_rfl) (by kernel_rfl) (fun _ _ _ h => h) (by rfl) ?_ ?_
  rotate_left
  · intro W hW; have hW0 := Frm.tr E0rd.out hW; clear hW; go_simp <;> with_reducible rfl
  try simp only [Act.put, List.setIfInBounds_toArray, List.set_cons_zero, List.set_cons_succ]
  refine rx_take (i := 9) (v := ?_) rfl (by kernel_rfl) (by kernel_rfl) (by kernel_rfl) (fun _ _ _ h => h) (by rfl) ?_ ?_
  rotate_left
  · intro W hW; have hW0 := Frm.tr E0rd.out hW; clear hW; go_simp <;> with_reducible rfl
  try simp only [Act.put, List.setIfInBounds_toArray, List.set_cons_zero, List.set_cons_succ]
  refine rx_call (i := 10) rfl (by kernel_rfl) (by rfl) (fun K' hK => ?_)
  go_simp
  (go_at_call 21; (with_reducible refine (R1.out _ _ true T5k.out rfl (by decide)).mono ?_); rintro e w6 ⟨rfl, hx, ht⟩; refine hK _ _ hx ?_; clear hK)
  have Ew6 := Lib.hid (Frm.tr E0rd.out hx)
  have T6 := Lib.hid ht; clear ht
  clear hx
  try simp only [Act.put, List.setIfInBounds_toArray, List.set_cons_zero, List.set_cons_succ]
  refine rx_take (i := 11) (v := ?_) rfl (by kernel_rfl) (by kernel_rfl) (by kernel_rfl) (fun _ _ _ h => h) (by rfl) ?_ ?_
  rotate_left
  · intro W hW; have hW0 := Frm.tr Ew6.out hW; clear hW; go_simp <;> with_reducible rfl
  try simp only [Act.put, List.setIfInBounds_toArray, List.set_cons_zero, List.set_cons_succ]
  refine rx_take (i := 12) (v := ?_) rfl (by kernel_rfl) (by kernel_rfl) (by kernel_rfl) (fun _ _ _ h => h) (by rfl) ?_ ?_
  rotate_left
  · intro W hW; have hW0 := Frm.tr Ew6.out hW; clear hW; go_simp <;> with_reducible rfl
  try simp only [Act.put, List.setIfInBounds_toArray, List.set_cons_zero, List.set_cons_succ]
  refine rx_take (i := 13) (v := ?_) rfl (by kernel_rfl) (by kernel_rfl) (by kernel_rfl) (fun _ _ _ h => h) (by rfl) ?_ ?_
  rotate_left
  · intro W hW; have hW0 := Frm.tr Ew6.out hW; clear hW; go_simp <;> with_reducible rfl
  try simp only [Act.put, List.setIfInBounds_toArray, List.set_cons_zero, List.set_cons_succ]
  refine rx_take (i := 15) (v := ?_) rfl (by kernel_rfl) (by kernel_rfl) (by kernel_rfl) (fun _ _ _ h => h) (by rfl) ?_ ?_
  rotate_left
  · intro W hW; have hW0 := Frm.tr Ew6.out hW; clear hW; go_simp <;> with_reducible rfl
  try simp only [Act.put, List.setIfInBounds_toArray, List.set_cons_zero, List.set_cons_succ]
  refine rx_call (i := 14) rfl (by kernel_rfl) (by rfl) (fun K' hK => ?_)
  go_simp
  (go_at_call 24; (with_reducible refine (R3.out _ T6.out).mono ?_); rintro e w7 ⟨A', c', rfl, hx, ht, hs⟩; refine hK _ _ hx ?_; clear hK)
  have Ew7 := Lib.hid (Frm.tr Ew6.out hx)
  have T7 := Lib.hid ht; clear ht; have SA := Lib.hid hs; clear hs
  clear hx
  try simp only [Act.put, List.setIfInBounds_toArray, List.set_cons_zero, List.set_cons_succ]
  refine rx_call (i := 16) rfl (by kernel_rfl) (by rfl) (fun K' hK => ?_)
  go_simp
  (go_at_call 23; (with_reducible refine (R4.out _ _ _ _ T7.out SA.out (HSE.out _ Ew7.out)).mono ?_); rintro e w8 ⟨rfl, hx, ht⟩; refine hK _ _ hx ?_; clear hK)
  have Ew8 := Lib.hid (Frm.tr Ew7.out hx)
  have T8 := Lib.hid ht; clear ht
  clear hx
  try simp only [Act.put, List.setIfInBounds_toArray, List.set_cons_zero, List.set_cons_succ]
  refine rx_take (i := 17) (v := ?_) rfl (by kernel_rfl) (by kernel_rfl) (by kernel_rfl) (fun _ _ _ h => h) (by rfl) ?_ ?_
  rotate_left
  · intro W hW; have hW0 := Frm.tr Ew8.out hW; clear hW; go_simp <;> with_reducible rfl
  try simp only [Act.put, List.setIfInBounds_toArray, List.set_cons_zero, List.set_cons_succ]
  refine rx_take (i := 18) (v := ?_) rfl (by kernel_rfl) (by kernel_rfl) (by kernel_rfl) (fun _ _ _ h => h) (by rfl) ?_ ?_
  rotate_left
  · intro W hW; have hW0 := Frm.tr Ew8.out hW; clear hW; go_simp <;> with_reducible rfl
  try simp only [Act.put, List.setIfInBounds_toArray, List.set_cons_zero, List.set_cons_succ]
  refine rx_take (i := 19) (v := ?_) rfl (by kernel_rfl) (by kernel_rfl) (by kernel_rfl) (fun _ _ _ h => h) (by rfl) ?_ ?_
  rotate_left
  · intro W hW; have hW0 := Frm.tr Ew8.out hW; clear hW; go_simp <;> with_reducible rfl
  try simp only [Act.put, List.setIfInBounds_toArray, List.set_cons_zero, List.set_cons_succ]
  refine rx_call (i := 20) rfl (by kernel_rfl) (by rfl) (fun K' hK => ?_)
  go_simp
  (go_at_call 19; (with_reducible refine (R5.out _ _ 0 T8.out rfl (by simp) (by omega) (by omega) (by simp) (by simp)).mono ?_); rintro e w9 ⟨rfl, hx, ht⟩; refine hK _ _ hx ?_; clear hK)
  have Ew9 := Lib.hid (Frm.tr Ew8.out hx)
  have T9 := Lib.hid ht; clear ht
  clear hx
  try simp only [Act.put, List.setIfInBounds_toArray, List.set_cons_zero, List.set_cons_succ]
  refine rx_take (i := 21) (v := ?_) rfl (by kernel_rfl) (by kernel_rfl) (by kernel_rfl) (fun _ _ _ h => h) (by rfl) ?_ ?_
  rotate_left
  · intro W hW; have hW0 := Frm.tr Ew9.out hW; clear hW; go_simp <;> with_reducible rfl
  try simp only [Act.put, List.setIfInBounds_toArray, List.set_cons_zero, List.set_cons_succ]
  refine rx_take (i := 22) (v := ?_) rfl (by kernel_rfl) (by kernel_rfl) (by kernel_rfl) (fun _ _ _ h => h) (by rfl) ?_ ?_
  rotate_left
  · intro W hW; have hW0 := Frm.tr Ew9.out hW; clear hW; go_simp <;> with_reducible rfl
  try simp only [Act.put, List.setIfInBounds_toArray, List.set_cons_zero, List.set_cons_succ]
  refine rx_take (i := 23) (v := ?_) rfl (by kernel_rfl) (by kernel_rfl) (by kernel_rfl) (fun _ _ _ h => h) (by rfl) ?_ ?_
  rotate_left
  · intro W hW; have hW0 := Frm.tr Ew9.out hW; clear hW; go_simp <;> with_reducible rfl
  try simp only [Act.put, List.setIfInBounds_toArray, List.set_cons_zero, List.set_cons_succ]
  refine rx_call (i := 24) rfl (by kernel_rfl) (by rfl) (fun K' hK => ?_)
  go_simp
  (go_at_call 22; (with_reducible refine (R2.out _ _ false T9.out rfl (by decide)).mono ?_); rintro e w10 ⟨rfl, hx, ht⟩; refine hK _ _ hx ?_; clear hK)
  have Ew10 := Lib.hid (Frm.tr Ew9.out hx)
  have T10 := Lib.hid ht; clear ht
  clear hx
  try simp only [Act.put, List.setIfInBounds_toArray, List.set_cons_zero, List.set_cons_succ]
  refine rx_take (i := 25) (v := ?_) rfl (by kernel_rfl) (by kernel_rfl) (by kernel_rfl) (fun _ _ _ h => h) (by rfl) ?_ ?_
  rotate_left
  · intro W hW; have hW0 := Frm.tr Ew10.out hW; clear hW; go_simp <;> with_reducible rfl
  try simp only [Act.put, List.setIfInBounds_toArray, List.set_cons_zero, List.set_cons_succ]
  refine rx_take (i := 26) (v := ?_) rfl (by kernel_rfl) (by kernel_rfl) (by kernel_rfl) (fun _ _ _ h => h) (by rfl) ?_ ?_
  rotate_left
  · intro W hW; have hW0 := Frm.tr Ew10.out hW; clear hW; go_simp <;> with_reducible rfl
  try simp only [Act.put, List.setIfInBounds_toArray, List.set_cons_zero, List.set_cons_succ]
  refine rx_take (i := 27) (v := ?_) rfl (by kernel_rfl) (by kernel_rfl) (by kernel_rfl) (fun _ _ _ h => h) (by rfl) ?_ ?_
  rotate_left
  · intro W hW; have hW0 := Frm.tr Ew10.out hW; clear hW; go_simp <;> with_reducible rfl
  try simp only [Act.put, List.setIfInBounds_toArray, List.set_cons_zero, List.set_cons_succ]
  refine rx_take (i := 28) (v := ?_) rfl (by kernel_rfl) (by kernel_rfl) (by kernel_rfl) (fun _ _ _ h => h) (by rfl) ?_ ?_
  rotate_left
  · intro W hW; have hW0 := Frm.tr Ew10.out hW; clear hW; go_simp <;> with_reducible rfl
  try simp only [Act.put, List.setIfInBounds_toArray, List.set_cons_zero, List.set_cons_succ]
  refine rx_call (i := 29) rfl (by kernel_rfl) (by rfl) (fun K' hK => ?_)
  go_simp
  (go_at_call 19; (with_reducible refine (R5.out _ _ 2 T10.out rfl (by simp) (by omega) (by omega) (by simp) (by simp)).mono ?_); rintro e w11 ⟨rfl, hx, ht⟩; refine hK _ _ hx ?_; clear hK)
  have Ew11 := Lib.hid (Frm.tr Ew10.out hx)
  have T11 := Lib.hid ht; clear ht
  clear hx
  try simp only [Act.put, List.setIfInBounds_toArray, List.set_cons_zero, List.set_cons_succ]
  refine rx_take (i := 30) (v := ?_) rfl (by kernel_rfl) (by kernel_rfl) (by kernel_rfl) (fun _ _ _ h => h) (by rfl) ?_ ?_
  rotate_left
  · intro W hW; have hW0 := Frm.tr Ew11.out hW; clear hW; go_simp <;> with_reducible rfl
  try simp only [Act.put, List.setIfInBounds_toArray, List.set_cons_zero, List.set_cons_succ]
  refine rx_take (i := 31) (v := ?_) rfl (by kernel_rfl) (by kernel_rfl) (by kernel_rfl) (fun _ _ _ h => h) (by rfl) ?_ ?_
  rotate_left
  · intro W hW; have hW0 := Frm.tr Ew11.out hW; clear hW; go_simp <;> with_reducible rfl
  try simp only [Act.put, List.setIfInBounds_toArray, List.set_cons_zero, List.set_cons_succ]
  refine rx_take (i := 32) (v := ?_) rfl (by kernel_rfl) (by kernel_rfl) (by kernel_rfl) (fun _ _ _ h => h) (by rfl) ?_ ?_
  rotate_left
  · intro W hW; have hW0 := Frm.tr Ew11.out hW; clear hW; go_simp <;> with_reducible rfl
  try simp only [Act.put, List.setIfInBounds_toArray, List.set_cons_zero, List.set_cons_succ]
  refine rx_call (i := 33) rfl (by kernel_rfl) (by rfl) (fun K' hK => ?_)
  go_simp
  (go_at_call 22; (with_reducible refine (R2.out _ _ true T11.out rfl (by decide)).mono ?_); rintro e w12 ⟨rfl, hx, ht⟩; refine hK _ _ hx ?_; clear hK)
  have Ew12 := Lib.hid (Frm.tr Ew11.out hx)
  have T12 := Lib.hid ht; clear ht
  clear hx
  try simp only [Act.put, List.setIfInBounds_toArray, List.set_cons_zero, List.set_cons_succ]
  refine rx_take (i := 34) (v := ?_) rfl (by kernel_rfl) (by kernel_rfl) (by kernel_rfl) (fun _ _ _ h => h) (by rfl) ?_ ?_
  rotate_left
  · intro W hW; have hW0 := Frm.tr Ew12.out hW; clear hW; go_simp <;> with_reducible rfl
  try simp only [Act.put, List.setIfInBounds_toArray, List.set_cons_zero, List.set_cons_succ]
  refine rx_take (i := 35) (v := ?_) rfl (by kernel_rfl) (by kernel_rfl) (by kernel_rfl) (fun _ _ _ h => h) (by rfl) ?_ ?_
  rotate_left
  · intro W hW; have hW0 := Frm.tr Ew12.out hW; clear hW; go_simp <;> with_reducible rfl
  try simp only [Act.put, List.setIfInBounds_toArray, List.set_cons_zero, List.set_cons_succ]
  refine rx_take (i := 36) (v := ?_) rfl (by kernel_rfl) (by kernel_rfl) (by kernel_rfl) (fun _ _ _ h => h) (by rfl) ?_ ?_
  rotate_left
  · intro W hW; have hW0 := Frm.tr Ew12.out hW; clear hW; go_simp <;> with_reducible rfl
  try simp only [Act.put, List.setIfInBounds_toArray, List.set_cons_zero, List.set_cons_succ]
  refine rx_call (i := 37) rfl (by kernel_rfl) (by rfl) (fun K' hK => ?_)
  go_simp
  (go_at_call 19; (with_reducible refine (R6.out _ _ 2 T12.out rfl (by simp) (by omega) (by omega) (by simp) (by simp)).mono ?_); rintro e w13 ⟨rfl, hx, ht⟩; refine hK _ _ hx ?_; clear hK)
  have Ew13 := Lib.hid (Frm.tr Ew12.out hx)
  have T13 := Lib.hid ht; clear ht
  clear hx
  try simp only [Act.put, List.setIfInBounds_toArray, List.set_cons_zero, List.set_cons_succ]
  refine rx_take (i := 38) (v := ?_) rfl (by kernel_rfl) (by kernel_rfl) (by kernel_rfl) (fun _ _ _ h => h) (by rfl) ?_ ?_
  rotate_left
  · intro W hW; have hW0 := Frm.tr Ew13.out hW; clear hW; go_simp <;> with_reducible rfl
  try simp only [Act.put, List.setIfInBounds_toArray, List.set_cons_zero, List.set_cons_succ]
  refine rx_take (i := 39) (v := ?_) rfl (by kernel_rfl) (by kernel_rfl) (by kernel_rfl) (fun _ _ _ h => h) (by rfl) ?_ ?_
  rotate_left
  · intro W hW; have hW0 := Frm.tr Ew13.out hW; clear hW; go_simp <;> with_reducible rfl
  try simp only [Act.put, List.setIfInBounds_toArray, List.set_cons_zero, List.set_cons_succ]
  refine rx_take (i := 40) (v := ?_) rfl (by kernel_rfl) (by kernel_rfl) (by kernel_rfl) (fun _ _ _ h => h) (by rfl) ?_ ?_
  rotate_left
  · intro W hW; have hW0 := Frm.tr Ew13.out hW; clear hW; go_simp <;> with_reducible rfl
  try simp only [Act.put, List.setIfInBounds_toArray, List.set_cons_zero, List.set_cons_succ]
  refine rx_call (i := 41) rfl (by kernel_rfl) (by rfl) (fun K' hK => ?_)
  go_simp
  (go_at_call 15; (with_reducible refine (R7.out _ 5 3 (by omega) (by omega) (by decide)).mono ?_); rintro e w14 ⟨rfl, hx⟩; refine hK _ _ hx ?_; clear hK)
  have Ew14 := Lib.hid (Frm.tr Ew13.out hx)
  skip
  clear hx
  try simp only [Act.put, List.setIfInBounds_toArray, List.set_cons_zero, List.set_cons_succ]
  refine rx_take (i := 42) (v := ?_) rfl (by kernel_rfl) (by kernel_rfl) (by kernel_rfl) (fun _ _ _ h => h) (by rfl) ?_ ?_
  rotate_left
  · intro W hW; have hW0 := Frm.tr Ew14.out hW; clear hW; go_simp <;> with_reducible rfl
  try simp only [Act.put, List.setIfInBounds_toArray, List.set_cons_zero, List.set_cons_succ]
  refine rx_take (i := 43) (v := ?_) rfl (by kernel_rfl) (by kernel_rfl) (by kernel_rfl) (fun _ _ _ h => h) (by rfl) ?_ ?_
  rotate_left
  · intro W hW; have hW0 := Frm.tr Ew14.out hW; clear hW; go_simp <;> with_reducible rfl
  try simp only [Act.put, List.setIfInBounds_toArray, List.set_cons_zero, List.set_cons_succ]
  refine rx_take (i := 44) (v := ?_) rfl (by kernel_rfl) (by kernel_rfl) (by kernel_rfl) (fun _ _ _ h => h) (by rfl) ?_ ?_
  rotate_left
  · intro W hW; have hW0 := Frm.tr Ew14.out hW; clear hW; go_simp <;> with_reducible rfl
  try simp only [Act.put, List.setIfInBounds_toArray, List.set_cons_zero, List.set_cons_succ]
  refine rx_call (i := 45) rfl (by kernel_rfl) (by rfl) (fun K' hK => ?_)
  go_simp
  (go_at_call 15; (with_reducible refine (R7.out _ 4 3 (by omega) (by omega) (by decide)).mono ?_); rintro e w15 ⟨rfl, hx⟩; refine hK _ _ hx ?_; clear hK)
  have Ew15 := Lib.hid (Frm.tr Ew14.out hx)
  skip
  clear hx
  try simp only [Act.put, List.setIfInBounds_toArray, List.set_cons_zero, List.set_cons_succ]
  refine rx_take (i := 46) (v := ?_) rfl (by kernel_rfl) (by kernel_rfl) (by kernel_rfl) (fun _ _ _ h => h) (by rfl) ?_ ?_
  rotate_left
  · intro W hW; have hW0 := Frm.tr Ew15.out hW; clear hW; go_simp <;> with_reducible rfl
  try simp only [Act.put, List.setIfInBounds_toArray, List.set_cons_zero, List.set_cons_succ]
  refine rx_take (i := 47) (v := ?_) rfl (by kernel_rfl) (by kernel_rfl) (by kernel_rfl) (fun _ _ _ h => h) (by rfl) ?_ ?_
  rotate_left
  · intro W hW; have hW0 := Frm.tr Ew15.out hW; clear hW; go_simp <;> with_reducible rfl
  try simp only [Act.put, List.setIfInBounds_toArray, List.set_cons_zero, List.set_cons_succ]
  refine rx_take (i := 48) (v := ?_) rfl (by kernel_rfl) (by kernel_rfl) (by kernel_rfl) (fun _ _ _ h => h) (by rfl) ?_ ?_
  rotate_left
  · intro W hW; have hW0 := Frm.tr Ew15.out hW; clear hW; go_simp <;> with_reducible rfl
  try simp only [Act.put, List.setIfInBounds_toArray, List.set_cons_zero, List.set_cons_succ]
  refine rx_call (i := 49) rfl (by kernel_rfl) (by rfl) (fun K' hK => ?_)
  go_simp
  (go_at_call 15; (with_reducible refine (R7.out _ 0 0 (by omega) (by omega) (by decide)).mono ?_); rintro e w16 ⟨rfl, hx⟩; refine hK _ _ hx ?_; clear hK)
  have Ew16 := Lib.hid (Frm.tr Ew15.out hx)
  skip
  clear hx
  try simp only [Act.put, List.setIfInBounds_toArray, List.set_cons_zero, List.set_cons_succ]
  refine rx_take (i := 50) (v := ?_) rfl (by kernel_rfl) (by kernel_rfl) (by kernel_rfl) (fun _ _ _ h => h) (by rfl) ?_ ?_
  rotate_left
  · intro W hW; have hW0 := Frm.tr Ew16.out hW; clear hW; go_simp <;> with_reducible rfl
  try simp only [Act.put, List.setIfInBounds_toArray, List.set_cons_zero, List.set_cons_succ]
  refine rx_take (i := 51) (v := ?_) rfl (by kernel_rfl) (by kernel_rfl) (by kernel_rfl) (fun _ _ _ h => h) (by rfl) ?_ ?_
  rotate_left
  · intro W hW; have hW0 := Frm.tr Ew16.out hW; clear hW; go_simp <;> with_reducible rfl
  try simp only [Act.put, List.setIfInBounds_toArray, List.set_cons_zero, List.set_cons_succ]
  refine rx_take (i := 52) (v := ?_) rfl (by kernel_rfl) (by kernel_rfl) (by kernel_rfl) (fun _ _ _ h => h) (by rfl) ?_ ?_
  rotate_left
  · intro W hW; have hW0 := Frm.tr Ew16.out hW; clear hW; go_simp <;> with_reducible rfl
  try simp only [Act.put, List.setIfInBounds_toArray, List.set_cons_zero, List.set_cons_succ]
  refine wpAnyH_done (by kernel_rfl) ?_ _
  go_wp2
  try go_ret
  exact hD.out _ _ ⟨rfl, Below.trans HBW.out ((Ew16.out.below (B := w0.heap.size) HBZ.out (fun k hk => HKB.out k hk)).mono HB0.out.size)⟩
end Go.Proofs.Ytkdcbidbciognaa
