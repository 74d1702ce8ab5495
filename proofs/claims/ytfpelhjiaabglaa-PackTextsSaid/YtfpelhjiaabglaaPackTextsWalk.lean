/-
  The walk of the law PackTexts.
-/
import Derived.Test.YtfpelhjiaabglaaRefNum
namespace Go.Proofs.Ytfpelhjiaabglaa
set_option linter.unusedVariables false
set_option linter.unusedSimpArgs false
open Go.RowKit Go.ChangeShapes Go.WideShapes

theorem rdText_put (s : ByteArray) (m : Nat) (r : List UInt8) (hs : s.size < 18446744073709551616) : rdText (numB s.size ++ (s.data.toList ++ r)) false m = if m < s.size then ([], numB s.size ++ (s.data.toList ++ r), true) else (s.data.toList, r, false) := by
  have hz : s.data.toList.length = s.size := by rw [Array.length_toList]; rfl
  unfold rdText
  rw [rdNum_numB m s.size _ hs]
  by_cases h : m < s.size
  · rw [if_pos h, if_pos h, if_pos rfl]
  · rw [if_neg h, if_neg h]
    simp only [Bool.false_eq_true, if_false]
    rw [if_neg (by rw [List.length_append, hz]; omega), ← hz, List.take_left, List.drop_left]

set_option maxRecDepth 8000 in
set_option maxHeartbeats 8000000 in
theorem walk_packTexts (s : ByteArray) (most : Int) (w : World) (hs : s.size ≤ maxLen) (hm : -9223372036854775808 ≤ most ∧ most ≤ 9223372036854775807) :
    Calls Try.prog 10 #[.string s, .int .i64 most] w fun e w' => e = .returned (.bool true) ∧ Below w.heap.size w w' := by
  refine hide_post fun D hD => ?_
  have HTO : Hid (∀ V, Calls Try.prog 15 #[] V fun e w' => e = .returned (.bool true) ∧ Ext V w') := told1
  unfold maxLen at hs
  by_cases h : (300 : Int) < (s.size : Int)
  · go_enter Try.func10, Try.ntmps10
    go_wp2_with (go_at_call 15; (with_reducible refine (HTO.out _).mono ?_); rintro e w1 ⟨rfl, hx⟩; have HX := Lib.hid hx; clear hx)
    try go_ret
    exact hD.out _ _ ⟨rfl, HX.out⟩
  have hs3 : s.size ≤ 300 := by omega
  obtain ⟨mn, hmn, hmi⟩ : ∃ n : Nat, n ≤ 9223372036854775807 ∧ (most = n ∨ most < 0 ∧ n = 0) := ⟨most.toNat, by omega, by omega⟩
  obtain ⟨l, hl⟩ : ∃ l, l = numB s.size ++ s.data.toList := ⟨_, rfl⟩
  have hz : s.data.toList.length = s.size := by rw [Array.length_toList]; rfl
  have HL : Hid (l.length ≤ 310) := by (show _ ≤ _); rw [hl, List.length_append]; have := numF_len 10 s.size; unfold numB; omega
  have hx : rdText l false mn = if mn < s.size then ([], l, true) else (s.data.toList, [], false) := by
    have := rdText_put s mn [] (by omega)
    rw [List.append_nil] at this
    rw [hl]
    exact this
  have HRX := Lib.hid hx
  obtain ⟨W0, hW0⟩ : ∃ W0, W0 = w.alloc (.cells #[.slice none 0 0] 26) := ⟨_, rfl⟩
  have x0 : Ext w W0 := by rw [hW0]; exact Ext.alloc _ _
  have H0 : WrAt W0 w.heap.size w.heap.size [] none := by rw [hW0]; exact ⟨.slice none 0 0, Blk.new _ _ _, World.ownsRow_nil _ _ _ _, rfl⟩
  have C1 : Hid (Calls Try.prog 18 #[.pointer (some ⟨w.heap.size, 0, none⟩), .string s] W0 fun e w' => e = .returned (.tuple #[]) ∧ WrTo W0 w' w.heap.size w.heap.size l none) := by
    have := textW_any w.heap.size w.heap.size [] none s W0 H0 (by omega) (by simp) x0.size
    rw [hl]
    exact this
  have HX0 := Lib.hid x0
  have HW0 := Lib.hid hW0
  have HLE := Lib.hid hl
  have HM := Lib.hid (And.intro hmn hmi)
  clear x0 H0 hW0 hl hx hz hmn hmi
  go_enter Try.func10, Try.ntmps10
  go_wp2_with fail
  rw [← HW0.out]
  go_at_call 18
  with_reducible refine C1.out.mono ?_
  rintro e w1 ⟨rfl, h1⟩
  have b1 : Below w.heap.size w w1 := Below.trans HX0.out (h1.low (Nat.le_refl _) (by simp) HX0.out.size)
  obtain ⟨g1, k1, _, _⟩ := h1
  have C2 : Hid (Calls Try.prog 22 #[.pointer (some ⟨w.heap.size, 0, none⟩)] w1 fun e w' => ∃ A cap, e = .returned (.slice A l.length cap) ∧ w'.ownsRow w1.heap.size 5 1 (.slice A l.length cap) l.length (l.map u8) ∧ Ext w1 w') := bytes_any w.heap.size w.heap.size l g1 w1 k1 (by have := HL.out; omega)
  have B1 := Lib.hid b1
  clear k1 b1 C1
  go_wp2_with fail
  go_at_call 22
  with_reducible refine C2.out.mono ?_
  rintro e w2 ⟨A, cap, rfl, ho, hx⟩
  have S2 : Hid (Sl u8 w2 A l) := by
    obtain ⟨A', c', e, hs⟩ := own_view ho
    injection e with e1 e2 e3
    subst e1
    exact hs
  have B2 : Hid (Below w.heap.size w w2) := Below.trans B1.out (Below.mono hx B1.out.size)
  have C3 : Hid (Calls Try.prog 23 #[.slice A l.length cap] w2 fun e w' => ∃ P, e = .returned (.pointer (some ⟨P, 0, none⟩)) ∧ RdAt w' P l false ∧ Ext w2 w' ∧ w2.heap.size ≤ P) := new_any A cap l w2 S2.out (by have := HL.out; omega)
  clear ho hx C2
  go_wp2_with fail
  go_at_call 23
  with_reducible refine C3.out.mono ?_
  rintro e w3 ⟨P, rfl, hr, hx, hP⟩
  have B3 : Hid (Below w.heap.size w w3) := Below.trans B2.out (Below.mono hx B2.out.size)
  have HPw : Hid (w2.heap.size ≤ P) := hP
  have C4 : Hid (Calls Try.prog 26 #[.pointer (some ⟨P, 0, none⟩), .int .i64 most] w3 fun e w' => e = .returned (.string (str (rdText l false mn).1)) ∧ RdAt w' P (rdText l false mn).2.1 (rdText l false mn).2.2 ∧ Frm (fun k => k = P) w3 w') := textR_any P l false mn most w3 HM.out.2 hr (by have := HL.out; omega) HM.out.1
  have X3 : Hid (Ext w2 w3) := hx
  clear hr hx hP C3
  go_wp2_with fail
  go_at_call 26
  with_reducible refine C4.out.mono ?_
  rintro e w4 ⟨rfl, hr, hf⟩
  have B4 : Hid (Below w.heap.size w w4) := Below.trans B3.out (hf.below B3.out.size (fun k hk => by have := HPw.out; have := B2.out.size; omega))
  have X4 : Hid (Ext w2 w4) := Below.trans X3.out (hf.below X3.out.size (fun k hk => by have := HPw.out; omega))
  have S4 : Hid (Sl u8 w4 A l) := S2.out.stay X4.out
  have hrx := HRX.out
  clear hf C4 HPw X3 X4 S2 B1 B2 B3 HX0
  have hmn := HM.out.1
  have hmi := HM.out.2
  by_cases hc : mn < s.size
  · rw [if_pos hc] at hrx
    rw [hrx] at hr ⊢
    have HE1 : Hid (∀ V, Ext w4 V → Calls Try.prog 30 #[.pointer (some ⟨P, 0, none⟩)] V fun e w' => e = .returned (.int .i64 2) ∧ V = w') := fun V h => endR_any P l true V (hr.stay h) (by have := HL.out; omega)
    clear hr hrx HRX HM
    have hse : str [] = ⟨#[]⟩ := rfl
    simp only [hse]
    have hmx : max most 0 = (mn : Int) := by omega
    have hg : ¬ (s.size : Int) ≤ (mn : Int) := by omega
    rcases hmi with rfl | ⟨hm1, rfl⟩
    · clear hmx
      go_wp2_with (first
        | (go_at_call 15; (with_reducible refine (HTO.out _).mono ?_); rintro e w5 ⟨rfl, hx⟩; have h5 : Ext w4 w5 := hx; clear hx)
        | (go_at_call 30; (with_reducible refine (HE1.out _ h5).mono ?_); rintro e w6 ⟨rfl, rfl⟩))
      try go_ret
      exact hD.out _ _ ⟨rfl, Below.step B4.out h5⟩
    · have hg2 : ¬ (s.size : Int) ≤ 0 := by omega
      have hg3 : ¬ s.size = 0 := by omega
      have hg4 : ¬ s = ByteArray.empty := fun e => by subst e; exact hg3 rfl
      clear hg hmx
      go_wp2_with (first
        | (go_at_call 15; (with_reducible refine (HTO.out _).mono ?_); rintro e w5 ⟨rfl, hx⟩; have h5 : Ext w4 w5 := hx; clear hx)
        | (go_at_call 30; (with_reducible refine (HE1.out _ h5).mono ?_); rintro e w6 ⟨rfl, rfl⟩))
      try go_ret
      exact hD.out _ _ ⟨rfl, Below.step B4.out h5⟩
  · rw [if_neg hc] at hrx
    rw [hrx] at hr ⊢
    have hss : str s.data.toList = s := rfl
    have HE1 : Hid (∀ V, Ext w4 V → Calls Try.prog 30 #[.pointer (some ⟨P, 0, none⟩)] V fun e w' => e = .returned (.int .i64 0) ∧ Ext V w') := fun V h => (endR_any P [] false V (hr.stay h) (by simp)).mono fun e w' ⟨h1, h2⟩ => ⟨h1, h2 ▸ Ext.refl _⟩
    have HT1 : Hid (∀ V, Ext w4 V → Calls Try.prog 15 #[] V fun e w' => e = .returned (.bool true) ∧ Ext V w') := fun V _ => HTO.out V
    have HR1 : Hid (∀ V, Ext w4 V → Calls Try.prog 19 #[.string s] V fun e w' => e = .returned (.string (str l)) ∧ Ext V w') := fun V _ => by rw [HLE.out]; exact refText_any s V (by omega)
    have hcv : ∀ V, Ext w4 V → (convert 24 9 (.slice A l.length cap)).run Try.prog V = .ok (.string (str l)) V := fun V h => run_str (P := Try.prog) (w := V) 24 9 5 A l cap Try.underlying24 Try.underlying5 Try.underlying9 (S4.out.stay h)
    have E0 : Hid (Ext w4 w4) := Ext.refl _
    clear hr hrx HRX HM
    have hg : (s.size : Int) ≤ (mn : Int) := by omega
    simp only [hss]
    generalize str l = t at *
    rcases hmi with rfl | ⟨hm1, rfl⟩
    · go_wp2
      refine ext_begin (by kernel_rfl) ?_
      have E0d := Lib.hid (Ext.drewR E0.out)
      refine ext_call (i := 0) rfl (by kernel_rfl) (by rfl) (fun K' hK => ?_)
      go_simp
      (go_at_call 15; (with_reducible refine (HT1.out _ E0d.out).mono ?_); rintro e w5 ⟨rfl, hx⟩; refine hK _ _ hx ?_; clear hK)
      have Ew5 := Lib.hid (Ext.trans E0d.out hx)
      clear hx
      try simp only [Act.put, List.setIfInBounds_toArray, List.set_cons_zero, List.set_cons_succ]
      refine ext_take (i := 1) (v := ?_) rfl (by kernel_rfl) (by kernel_rfl) (by kernel_rfl) (fun _ _ _ h => h) (by rfl) ?_ ?_
      rotate_left
      · intro W hW; have hW0 := Ext.trans Ew5.out hW; clear hW; go_simp <;> with_reducible rfl
      try simp only [Act.put, List.setIfInBounds_toArray, List.set_cons_zero, List.set_cons_succ]
      refine ext_take (i := 2) (v := ?_) rfl (by kernel_rfl) (by kernel_rfl) (by kernel_rfl) (fun _ _ _ h => h) (by rfl) ?_ ?_
      rotate_left
      · intro W hW; have hW0 := Ext.trans Ew5.out hW; clear hW; go_simp <;> with_reducible rfl
      try simp only [Act.put, List.setIfInBounds_toArray, List.set_cons_zero, List.set_cons_succ]
      refine ext_take (i := 3) (v := ?_) rfl (by kernel_rfl) (by kernel_rfl) (by kernel_rfl) (fun _ _ _ h => h) (by rfl) ?_ ?_
      rotate_left
      · intro W hW; have hW0 := Ext.trans Ew5.out hW; clear hW; go_simp <;> with_reducible rfl
      try simp only [Act.put, List.setIfInBounds_toArray, List.set_cons_zero, List.set_cons_succ]
      refine ext_take (i := 4) (v := .bool true) rfl (by kernel_rfl) (by kernel_rfl) (by kernel_rfl) (fun _ _ _ h => h) (by rfl) ?_ ?_
      · intro W hW; have hW0 := Ext.trans Ew5.out hW; clear hW; go_simp; all_goals (first | (simp; done) | omega)
      try simp only [Act.put, List.setIfInBounds_toArray, List.set_cons_zero, List.set_cons_succ]
      refine ext_take (i := 5) (v := ?_) rfl (by kernel_rfl) (by kernel_rfl) (by kernel_rfl) (fun _ _ _ h => h) (by rfl) ?_ ?_
      rotate_left
      · intro W hW; have hW0 := Ext.trans Ew5.out hW; clear hW; go_simp <;> with_reducible rfl
      try simp only [Act.put, List.setIfInBounds_toArray, List.set_cons_zero, List.set_cons_succ]
      refine ext_take (i := 6) (v := ?_) rfl (by kernel_rfl) (by kernel_rfl) (by kernel_rfl) (fun _ _ _ h => h) (by rfl) ?_ ?_
      rotate_left
      · intro W hW; have hW0 := Ext.trans Ew5.out hW; clear hW; go_simp <;> with_reducible rfl
      try simp only [Act.put, List.setIfInBounds_toArray, List.set_cons_zero, List.set_cons_succ]
      refine ext_take (i := 7) (v := ?_) rfl (by kernel_rfl) (by kernel_rfl) (by kernel_rfl) (fun _ _ _ h => h) (by rfl) ?_ ?_
      rotate_left
      · intro W hW; have hW0 := Ext.trans Ew5.out hW; clear hW; go_simp <;> with_reducible rfl
      try simp only [Act.put, List.setIfInBounds_toArray, List.set_cons_zero, List.set_cons_succ]
      refine ext_call (i := 8) rfl (by kernel_rfl) (by rfl) (fun K' hK => ?_)
      go_simp
      (go_at_call 30; (with_reducible refine (HE1.out _ Ew5.out).mono ?_); rintro e w6 ⟨rfl, hx⟩; refine hK _ _ hx ?_; clear hK)
      have Ew6 := Lib.hid (Ext.trans Ew5.out hx)
      clear hx
      try simp only [Act.put, List.setIfInBounds_toArray, List.set_cons_zero, List.set_cons_succ]
      refine ext_take (i := 9) (v := .bool true) rfl (by kernel_rfl) (by kernel_rfl) (by kernel_rfl) (fun _ _ _ h => h) (by rfl) ?_ ?_
      · intro W hW; have hW0 := Ext.trans Ew6.out hW; clear hW; go_simp; all_goals (first | (simp; done) | omega)
      try simp only [Act.put, List.setIfInBounds_toArray, List.set_cons_zero, List.set_cons_succ]
      refine ext_take (i := 10) (v := ?_) rfl (by kernel_rfl) (by kernel_rfl) (by kernel_rfl) (fun _ _ _ h => h) (by rfl) ?_ ?_
      rotate_left
      · intro W hW; have hW0 := Ext.trans Ew6.out hW; clear hW; go_simp <;> with_reducible rfl
      try simp only [Act.put, List.setIfInBounds_toArray, List.set_cons_zero, List.set_cons_succ]
      refine ext_take (i := 11) (v := ?_) rfl (by kernel_rfl) (by kernel_rfl) (by kernel_rfl) (fun _ _ _ h => h) (by rfl) ?_ ?_
      rotate_left
      · intro W hW; have hW0 := Ext.trans Ew6.out hW; clear hW; go_simp <;> with_reducible rfl
      try simp only [Act.put, List.setIfInBounds_toArray, List.set_cons_zero, List.set_cons_succ]
      refine ext_take (i := 12) (v := ?_) rfl (by kernel_rfl) (by kernel_rfl) (by kernel_rfl) (fun _ _ _ h => h) (by rfl) ?_ ?_
      rotate_left
      · intro W hW; have hW0 := Ext.trans Ew6.out hW; clear hW; go_simp <;> with_reducible rfl
      try simp only [Act.put, List.setIfInBounds_toArray, List.set_cons_zero, List.set_cons_succ]
      refine ext_take (i := 13) (v := .string t) rfl (by kernel_rfl) (by kernel_rfl) (by kernel_rfl) (fun _ _ _ h => h) (by rfl) ?_ ?_
      · intro W hW; have hW0 := Ext.trans Ew6.out hW; have hcw := hcv _ hW0; go_simp; first | done | exact hcw | (rw [hcw])
      try simp only [Act.put, List.setIfInBounds_toArray, List.set_cons_zero, List.set_cons_succ]
      refine ext_take (i := 14) (v := ?_) rfl (by kernel_rfl) (by kernel_rfl) (by kernel_rfl) (fun _ _ _ h => h) (by rfl) ?_ ?_
      rotate_left
      · intro W hW; have hW0 := Ext.trans Ew6.out hW; clear hW; go_simp <;> with_reducible rfl
      try simp only [Act.put, List.setIfInBounds_toArray, List.set_cons_zero, List.set_cons_succ]
      refine ext_call (i := 15) rfl (by kernel_rfl) (by rfl) (fun K' hK => ?_)
      go_simp
      (go_at_call 19; (with_reducible refine (HR1.out _ Ew6.out).mono ?_); rintro e w7 ⟨rfl, hx⟩; refine hK _ _ hx ?_; clear hK)
      have Ew7 := Lib.hid (Ext.trans Ew6.out hx)
      clear hx
      try simp only [Act.put, List.setIfInBounds_toArray, List.set_cons_zero, List.set_cons_succ]
      refine ext_take (i := 16) (v := .bool true) rfl (by kernel_rfl) (by kernel_rfl) (by kernel_rfl) (fun _ _ _ h => h) (by rfl) ?_ ?_
      · intro W hW; have hW0 := Ext.trans Ew7.out hW; clear hW; go_simp; all_goals (first | (simp; done) | omega)
      try simp only [Act.put, List.setIfInBounds_toArray, List.set_cons_zero, List.set_cons_succ]
      refine ext_take (i := 17) (v := ?_) rfl (by kernel_rfl) (by kernel_rfl) (by kernel_rfl) (fun _ _ _ h => h) (by rfl) ?_ ?_
      rotate_left
      · intro W hW; have hW0 := Ext.trans Ew7.out hW; clear hW; go_simp <;> with_reducible rfl
      try simp only [Act.put, List.setIfInBounds_toArray, List.set_cons_zero, List.set_cons_succ]
      refine ext_take (i := 18) (v := ?_) rfl (by kernel_rfl) (by kernel_rfl) (by kernel_rfl) (fun _ _ _ h => h) (by rfl) ?_ ?_
      rotate_left
      · intro W hW; have hW0 := Ext.trans Ew7.out hW; clear hW; go_simp <;> with_reducible rfl
      try simp only [Act.put, List.setIfInBounds_toArray, List.set_cons_zero, List.set_cons_succ]
      refine wpAnyH_done (by kernel_rfl) ?_ _
      have EV := Lib.hid Ew7.out
      go_wp2
      try go_ret
      exact hD.out _ _ ⟨rfl, Below.step B4.out EV.out⟩
    · obtain rfl : s = ByteArray.empty := ByteArray.ext (Array.eq_empty_of_size_eq_zero (by (show s.size = 0); omega))
      go_wp2
      refine ext_begin (by kernel_rfl) ?_
      have E0d := Lib.hid (Ext.drewR E0.out)
      refine ext_call (i := 0) rfl (by kernel_rfl) (by rfl) (fun K' hK => ?_)
      go_simp
      (go_at_call 15; (with_reducible refine (HT1.out _ E0d.out).mono ?_); rintro e w5 ⟨rfl, hx⟩; refine hK _ _ hx ?_; clear hK)
      have Ew5 := Lib.hid (Ext.trans E0d.out hx)
      clear hx
      try simp only [Act.put, List.setIfInBounds_toArray, List.set_cons_zero, List.set_cons_succ]
      refine ext_take (i := 1) (v := ?_) rfl (by kernel_rfl) (by kernel_rfl) (by kernel_rfl) (fun _ _ _ h => h) (by rfl) ?_ ?_
      rotate_left
      · intro W hW; have hW0 := Ext.trans Ew5.out hW; clear hW; go_simp <;> with_reducible rfl
      try simp only [Act.put, List.setIfInBounds_toArray, List.set_cons_zero, List.set_cons_succ]
      refine ext_take (i := 2) (v := ?_) rfl (by kernel_rfl) (by kernel_rfl) (by kernel_rfl) (fun _ _ _ h => h) (by rfl) ?_ ?_
      rotate_left
      · intro W hW; have hW0 := Ext.trans Ew5.out hW; clear hW; go_simp <;> with_reducible rfl
      try simp only [Act.put, List.setIfInBounds_toArray, List.set_cons_zero, List.set_cons_succ]
      refine ext_take (i := 3) (v := ?_) rfl (by kernel_rfl) (by kernel_rfl) (by kernel_rfl) (fun _ _ _ h => h) (by rfl) ?_ ?_
      rotate_left
      · intro W hW; have hW0 := Ext.trans Ew5.out hW; clear hW; go_simp <;> with_reducible rfl
      try simp only [Act.put, List.setIfInBounds_toArray, List.set_cons_zero, List.set_cons_succ]
      refine ext_take (i := 4) (v := .bool true) rfl (by kernel_rfl) (by kernel_rfl) (by kernel_rfl) (fun _ _ _ h => h) (by rfl) ?_ ?_
      · intro W hW; have hW0 := Ext.trans Ew5.out hW; clear hW; go_simp; all_goals (first | (simp; done) | omega)
      try simp only [Act.put, List.setIfInBounds_toArray, List.set_cons_zero, List.set_cons_succ]
      refine ext_take (i := 5) (v := ?_) rfl (by kernel_rfl) (by kernel_rfl) (by kernel_rfl) (fun _ _ _ h => h) (by rfl) ?_ ?_
      rotate_left
      · intro W hW; have hW0 := Ext.trans Ew5.out hW; clear hW; go_simp <;> with_reducible rfl
      try simp only [Act.put, List.setIfInBounds_toArray, List.set_cons_zero, List.set_cons_succ]
      refine ext_take (i := 6) (v := ?_) rfl (by kernel_rfl) (by kernel_rfl) (by kernel_rfl) (fun _ _ _ h => h) (by rfl) ?_ ?_
      rotate_left
      · intro W hW; have hW0 := Ext.trans Ew5.out hW; clear hW; go_simp <;> with_reducible rfl
      try simp only [Act.put, List.setIfInBounds_toArray, List.set_cons_zero, List.set_cons_succ]
      refine ext_take (i := 7) (v := ?_) rfl (by kernel_rfl) (by kernel_rfl) (by kernel_rfl) (fun _ _ _ h => h) (by rfl) ?_ ?_
      rotate_left
      · intro W hW; have hW0 := Ext.trans Ew5.out hW; clear hW; go_simp <;> with_reducible rfl
      try simp only [Act.put, List.setIfInBounds_toArray, List.set_cons_zero, List.set_cons_succ]
      refine ext_call (i := 8) rfl (by kernel_rfl) (by rfl) (fun K' hK => ?_)
      go_simp
      (go_at_call 30; (with_reducible refine (HE1.out _ Ew5.out).mono ?_); rintro e w6 ⟨rfl, hx⟩; refine hK _ _ hx ?_; clear hK)
      have Ew6 := Lib.hid (Ext.trans Ew5.out hx)
      clear hx
      try simp only [Act.put, List.setIfInBounds_toArray, List.set_cons_zero, List.set_cons_succ]
      refine ext_take (i := 9) (v := .bool true) rfl (by kernel_rfl) (by kernel_rfl) (by kernel_rfl) (fun _ _ _ h => h) (by rfl) ?_ ?_
      · intro W hW; have hW0 := Ext.trans Ew6.out hW; clear hW; go_simp; all_goals (first | (simp; done) | omega)
      try simp only [Act.put, List.setIfInBounds_toArray, List.set_cons_zero, List.set_cons_succ]
      refine ext_take (i := 10) (v := ?_) rfl (by kernel_rfl) (by kernel_rfl) (by kernel_rfl) (fun _ _ _ h => h) (by rfl) ?_ ?_
      rotate_left
      · intro W hW; have hW0 := Ext.trans Ew6.out hW; clear hW; go_simp <;> with_reducible rfl
      try simp only [Act.put, List.setIfInBounds_toArray, List.set_cons_zero, List.set_cons_succ]
      refine ext_take (i := 11) (v := ?_) rfl (by kernel_rfl) (by kernel_rfl) (by kernel_rfl) (fun _ _ _ h => h) (by rfl) ?_ ?_
      rotate_left
      · intro W hW; have hW0 := Ext.trans Ew6.out hW; clear hW; go_simp <;> with_reducible rfl
      try simp only [Act.put, List.setIfInBounds_toArray, List.set_cons_zero, List.set_cons_succ]
      refine ext_take (i := 12) (v := ?_) rfl (by kernel_rfl) (by kernel_rfl) (by kernel_rfl) (fun _ _ _ h => h) (by rfl) ?_ ?_
      rotate_left
      · intro W hW; have hW0 := Ext.trans Ew6.out hW; clear hW; go_simp <;> with_reducible rfl
      try simp only [Act.put, List.setIfInBounds_toArray, List.set_cons_zero, List.set_cons_succ]
      refine ext_take (i := 13) (v := .string t) rfl (by kernel_rfl) (by kernel_rfl) (by kernel_rfl) (fun _ _ _ h => h) (by rfl) ?_ ?_
      · intro W hW; have hW0 := Ext.trans Ew6.out hW; have hcw := hcv _ hW0; go_simp; first | done | exact hcw | (rw [hcw])
      try simp only [Act.put, List.setIfInBounds_toArray, List.set_cons_zero, List.set_cons_succ]
      refine ext_take (i := 14) (v := ?_) rfl (by kernel_rfl) (by kernel_rfl) (by kernel_rfl) (fun _ _ _ h => h) (by rfl) ?_ ?_
      rotate_left
      · intro W hW; have hW0 := Ext.trans Ew6.out hW; clear hW; go_simp <;> with_reducible rfl
      try simp only [Act.put, List.setIfInBounds_toArray, List.set_cons_zero, List.set_cons_succ]
      refine ext_call (i := 15) rfl (by kernel_rfl) (by rfl) (fun K' hK => ?_)
      go_simp
      (go_at_call 19; (with_reducible refine (HR1.out _ Ew6.out).mono ?_); rintro e w7 ⟨rfl, hx⟩; refine hK _ _ hx ?_; clear hK)
      have Ew7 := Lib.hid (Ext.trans Ew6.out hx)
      clear hx
      try simp only [Act.put, List.setIfInBounds_toArray, List.set_cons_zero, List.set_cons_succ]
      refine ext_take (i := 16) (v := .bool true) rfl (by kernel_rfl) (by kernel_rfl) (by kernel_rfl) (fun _ _ _ h => h) (by rfl) ?_ ?_
      · intro W hW; have hW0 := Ext.trans Ew7.out hW; clear hW; go_simp; all_goals (first | (simp; done) | omega)
      try simp only [Act.put, List.setIfInBounds_toArray, List.set_cons_zero, List.set_cons_succ]
      refine ext_take (i := 17) (v := ?_) rfl (by kernel_rfl) (by kernel_rfl) (by kernel_rfl) (fun _ _ _ h => h) (by rfl) ?_ ?_
      rotate_left
      · intro W hW; have hW0 := Ext.trans Ew7.out hW; clear hW; go_simp <;> with_reducible rfl
      try simp only [Act.put, List.setIfInBounds_toArray, List.set_cons_zero, List.set_cons_succ]
      refine ext_take (i := 18) (v := ?_) rfl (by kernel_rfl) (by kernel_rfl) (by kernel_rfl) (fun _ _ _ h => h) (by rfl) ?_ ?_
      rotate_left
      · intro W hW; have hW0 := Ext.trans Ew7.out hW; clear hW; go_simp <;> with_reducible rfl
      try simp only [Act.put, List.setIfInBounds_toArray, List.set_cons_zero, List.set_cons_succ]
      refine wpAnyH_done (by kernel_rfl) ?_ _
      have EV := Lib.hid Ew7.out
      go_wp2
      try go_ret
      exact hD.out _ _ ⟨rfl, Below.step B4.out EV.out⟩
set_option maxRecDepth 100000 in
theorem law_packTexts {H : Type} {enc : TypeId × Value → H} (W : World) (base : Nat) (args : Array Value) (ds : List (DataW H)) (p : List MemPlace)
    (hval : ∀ (j : Nat) t v, Try.f10.params[j]? = some t → args[j]? = some v → Value.okWide Try.prog W .any base t v)
    (hA : DataW.TrodAll enc Try.prog W 0 (fun _ => true) true Try.f10.params.toList args.toList ds p) :
    Calls Try.prog 10 args W fun e W' => e = .returned (.bool true) ∧ Below W.heap.size W W' := by
  rw [Try.params10] at hA hval
  obtain ⟨v0, vs0, d0, ds0, p0, q0, hargs, rfl, rfl, h0, r0⟩ := trodAll_cons hA
  obtain ⟨v1, vs1, d1, ds1, p1, q1, rfl, rfl, rfl, h1, r1⟩ := trodAll_cons r0
  obtain ⟨rfl, rfl, rfl⟩ := trodAll_nil r1
  obtain rfl : args = #[v0, v1] := by cases args; simp_all
  obtain ⟨a0, rfl, rfl, rfl, w0⟩ := Go.ChangeMaps.open_string Try.underlying9 (hval 0 9 v0 rfl rfl) h0
  obtain ⟨a1, rfl, rfl, rfl, w1⟩ := open_int Try.underlying3 (hval 1 3 v1 rfl rfl) h1
  exact walk_packTexts a0 a1 W w0 (bounds_i64 w1)

end Go.Proofs.Ytfpelhjiaabglaa
