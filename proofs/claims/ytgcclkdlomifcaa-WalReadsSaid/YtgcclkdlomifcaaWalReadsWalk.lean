/-
  The walk of the law WalReads.
-/
import Derived.Test.YtgcclkdlomifcaaWalTold
namespace Go.Proofs.Ytgcclkdlomifcaa
set_option linter.unusedVariables false
set_option linter.unusedSimpArgs false
open Go.RowKit Go.ChangeShapes Go.WideShapes

theorem endOf_le (l : List UInt8) (hl : l.length ≤ 1000000) : endOf (framesB l) ≤ 9223372036854775807 := by
  unfold endOf
  cases h : (framesB l).getLast? with
  | none => simp
  | some x =>
    have key : ∀ (f k : Nat) (l : List UInt8) (x : Nat × List UInt8), x ∈ walkGo f k l → x.1 ≤ k + l.length := by
      intro f
      induction f with
      | zero => intro k l x h; simp [walkGo] at h
      | succ f ih =>
        intro k l x h
        rw [walkGo] at h
        split at h
        · simp at h
        · rename_i y hy
          have hs := stepB_some hy
          rcases List.mem_cons.1 h with rfl | h
          · simp only; omega
          · have := ih _ _ _ h
            rw [List.length_drop] at this
            omega
    have := key _ _ _ x (List.mem_of_getLast? h)
    simp only
    omega

set_option maxRecDepth 8000 in
set_option maxHeartbeats 16000000 in
theorem walk_walReads (A0 : Option Addr) (cap0 : Nat) (l0 : List UInt8) (A1 : Option Addr) (cap1 : Nat) (l1 : List UInt8) (w : World) (hn0 : l0.length ≤ cap0) (hc0 : cap0 ≤ 9223372036854775807) (hs0 : Sl Go.Proofs.Ytgcclkdlomifcaa.u8 w A0 l0) (hn1 : l1.length ≤ 9223372036854775807) (hs1 : Sl Go.Proofs.Ytgcclkdlomifcaa.u8 w A1 l1) :
    Calls Try.prog 3 #[.slice A0 l0.length cap0, .slice A1 l1.length cap1] w fun e w' => e = .returned (.bool true) ∧ Below w.heap.size w w' := by
  refine hide_post fun D hD => ?_
  have HTO : Hid (∀ V, Calls Try.prog 14 #[] V fun e w' => e = .returned (.bool true) ∧ Ext V w') := told8
  have hcv0 : ∀ V, Ext w V → (convert 22 9 (.slice A0 l0.length cap0)).run Try.prog V = .ok (.string (str l0)) V := fun V h => run_strB A0 l0 cap0 V (hs0.stay h)
  have hcv1 : ∀ V, Ext w V → (convert 22 9 (.slice A1 l1.length cap1)).run Try.prog V = .ok (.string (str l1)) V := fun V h => run_strB A1 l1 cap1 V (hs1.stay h)
  have CRD : Hid (l0.length ≤ 1000 → ∀ V, Ext w V → Calls Try.prog 17 #[.slice A0 l0.length cap0] V fun e w' => ∃ A' c', e = .returned (.tuple #[.slice A' (readB l0).length c', .int .i64 (endOf (framesB l0))]) ∧ Sls w' A' (readB l0) ∧ Ext V w') := fun h5 V hV =>
    (read_any A0 cap0 l0 V (by omega) hn0 hc0 (hs0.stay hV)).mono fun e w' ⟨A', c', h1, h2, _, h4⟩ => ⟨A', c', h1, h2, h4⟩
  have CRR : Hid (l0.length ≤ 1000 → ∀ V, Ext w V → Calls Try.prog 18 #[.string (str l0)] V fun e w' => ∃ A' c', e = .returned (.tuple #[.slice A' (readB l0).length c', .int .i64 (endOf (framesB l0))]) ∧ Sl strV w' A' (readB l0) ∧ Ext V w') := fun h5 V hV => refRead_any l0 V (by omega)
  have CTX : Hid (l0.length ≤ 1000 → ∀ V A B c d, Sls V A (readB l0) → Sl strV V B (readB l0) → Calls Try.prog 19 #[.slice A (readB l0).length c, .slice B (readB l0).length d] V fun e w' => e = .returned (.bool true) ∧ Ext V w') := fun h5 V A B c d h1 h2 =>
    texts_yes A B c d (readB l0) V (by have := framesB_len l0; unfold readB; rw [List.length_map]; omega) h1 h2
  have CFN : Hid (l1.length < 1 ∨ 4096 < l1.length → Calls Try.prog 15 #[.slice A1 l1.length cap1] w fun e w' => e = .returned (.tuple #[.slice none 0 0, .int .i64 1]) ∧ w = w') := fun h => frame_no A1 cap1 l1.length w hn1 h
  have CFY : Hid (1 ≤ l1.length → l1.length ≤ 4096 → Calls Try.prog 15 #[.slice A1 l1.length cap1] w fun e w' => ∃ A' c', e = .returned (.tuple #[.slice A' (l1.length + 6) c', .int .i64 0]) ∧ Sl Go.Proofs.Ytgcclkdlomifcaa.u8 w' A' (frameB l1) ∧ Ext w w') := fun h1 h2 => (frame_yes A1 cap1 l1 w hs1 h1 h2).mono fun e w' ⟨A', c', h3, h4, h5⟩ => by
    refine ⟨A', c', h3, ?_, h5⟩
    obtain ⟨A9, c9, e, hs⟩ := own_view (l := frameB l1) (by rw [frameB_len]; exact h4)
    injection e with e1 e2 e3
    subst e1
    exact hs
  have CRF : Hid (l1.length ≤ 4096 → ∀ V, Ext w V → Calls Try.prog 16 #[.string (str l1)] V fun e w' => e = .returned (.string (str (frameB l1))) ∧ Ext V w') := fun h V _ => refFrame_any l1 V h
  have HFV : Hid (∀ V A c n, n = l1.length + 6 → Sl Go.Proofs.Ytgcclkdlomifcaa.u8 V A (frameB l1) → ∀ W, Ext V W → (convert 22 9 (.slice A n c)).run Try.prog W = .ok (.string (str (frameB l1))) W) := fun V A c n hn h W hW => by
    subst hn
    have := run_strB A (frameB l1) c W (h.stay hW)
    rw [frameB_len] at this
    exact this
  have HEF : Hid (l0.length ≤ 1000 → endOf (framesB l0) ≤ 9223372036854775807) := fun h => endOf_le l0 (by omega)
  clear hs0 hs1 hn0 hc0
  generalize endOf (framesB l0) = ef at *
  generalize (readB l0).length = rl at *
  generalize l0.length = n0 at *
  generalize l1.length = n1 at *
  by_cases h40 : (1000 : Int) < (n0 : Int)
  · clear hcv0 hcv1
    go_enter Try.func3, Try.ntmps3
    go_wp2_with (go_at_call 14; (with_reducible refine (HTO.out _).mono ?_); rintro e w1 ⟨rfl, hx⟩; have HX := Lib.hid hx; clear hx)
    try go_ret
    exact hD.out _ _ ⟨rfl, HX.out⟩
  by_cases h41 : (5000 : Int) < (n1 : Int)
  · clear hcv0 hcv1
    go_enter Try.func3, Try.ntmps3
    go_wp2_with (go_at_call 14; (with_reducible refine (HTO.out _).mono ?_); rintro e w1 ⟨rfl, hx⟩; have HX := Lib.hid hx; clear hx)
    try go_ret
    exact hD.out _ _ ⟨rfl, HX.out⟩
  have h1000 : n0 ≤ 1000 := by omega
  replace CRD := Lib.hid (CRD.out h1000)
  replace CRR := Lib.hid (CRR.out h1000)
  replace CTX := Lib.hid (CTX.out h1000)
  clear HEF
  by_cases g1 : (n1 : Int) < 1
  · replace CFN := Lib.hid (CFN.out (.inl (by omega)))
    clear CFY CRF HFV hcv1
    have E0 : Hid (Ext w w) := Ext.refl _
    go_enter Try.func3, Try.ntmps3
    go_wp2_with (go_at_call 15; (with_reducible refine CFN.out.mono ?_); rintro e w2 ⟨rfl, rfl⟩)
    have EW := E0
    have h0 : Ext w w := EW.out
    go_wp2_with (first
      | (go_at_call 17; (with_reducible refine (CRD.out _ EW.out).mono ?_); rintro e w3 ⟨A3, c3, rfl, hs3, hx⟩; have HS3 := Lib.hid hs3; have h3 : Ext w w3 := Ext.trans EW.out hx; clear hx hs3)
      | (go_at_call 18; (with_reducible refine (CRR.out _ h3).mono ?_); rintro e w4 ⟨A4, c4, rfl, hs4, hx⟩; have HS4 := Lib.hid hs4; have HS34 : Hid (Sls w4 A3 (readB l0)) := HS3.out.stay hx; have h4 : Ext w w4 := Ext.trans h3 hx; clear hx hs4)
      | (go_at_call 14; (with_reducible refine (HTO.out _).mono ?_); rintro e w5 ⟨rfl, hx⟩; have HS35 : Hid (Sls w5 A3 (readB l0)) := HS34.out.stay hx; have HS45 : Hid (Sl strV w5 A4 (readB l0)) := HS4.out.stay hx; have h5 : Ext w w5 := Ext.trans h4 hx; clear hx)
      | (go_at_call 19; (with_reducible refine (CTX.out _ _ _ _ _ HS35.out HS45.out).mono ?_); rintro e w6 ⟨rfl, hx⟩; have h6 : Ext w w6 := Ext.trans h5 hx; clear hx))
    try go_ret
    exact hD.out _ _ ⟨rfl, h6⟩
  by_cases g2 : (4096 : Int) < (n1 : Int)
  · replace CFN := Lib.hid (CFN.out (.inr (by omega)))
    clear CFY CRF HFV hcv1
    have E0 : Hid (Ext w w) := Ext.refl _
    go_enter Try.func3, Try.ntmps3
    go_wp2_with (go_at_call 15; (with_reducible refine CFN.out.mono ?_); rintro e w2 ⟨rfl, rfl⟩)
    have EW := E0
    have h0 : Ext w w := EW.out
    go_wp2_with (first
      | (go_at_call 17; (with_reducible refine (CRD.out _ EW.out).mono ?_); rintro e w3 ⟨A3, c3, rfl, hs3, hx⟩; have HS3 := Lib.hid hs3; have h3 : Ext w w3 := Ext.trans EW.out hx; clear hx hs3)
      | (go_at_call 18; (with_reducible refine (CRR.out _ h3).mono ?_); rintro e w4 ⟨A4, c4, rfl, hs4, hx⟩; have HS4 := Lib.hid hs4; have HS34 : Hid (Sls w4 A3 (readB l0)) := HS3.out.stay hx; have h4 : Ext w w4 := Ext.trans h3 hx; clear hx hs4)
      | (go_at_call 14; (with_reducible refine (HTO.out _).mono ?_); rintro e w5 ⟨rfl, hx⟩; have HS35 : Hid (Sls w5 A3 (readB l0)) := HS34.out.stay hx; have HS45 : Hid (Sl strV w5 A4 (readB l0)) := HS4.out.stay hx; have h5 : Ext w w5 := Ext.trans h4 hx; clear hx)
      | (go_at_call 19; (with_reducible refine (CTX.out _ _ _ _ _ HS35.out HS45.out).mono ?_); rintro e w6 ⟨rfl, hx⟩; have h6 : Ext w w6 := Ext.trans h5 hx; clear hx))
    try go_ret
    exact hD.out _ _ ⟨rfl, h6⟩
  replace CFY := Lib.hid (CFY.out (by omega) (by omega))
  replace CRF := Lib.hid (CRF.out (by omega))
  clear CFN
  go_enter Try.func3, Try.ntmps3
  go_wp2_with (go_at_call 15; (with_reducible refine CFY.out.mono ?_); rintro e w2 ⟨A2, c2, rfl, hs2, hx⟩; have E2 : Hid (Ext w w2) := hx; have hcvf := HFV.out w2 A2 c2 (n1 + 6) rfl hs2; clear hx hs2)
  have E3 : Hid (Ext w2 w2) := Ext.refl _
  have hcvg : ∀ V, Ext w2 V → (convert 22 9 (.slice A1 n1 cap1)).run Try.prog V = .ok (.string (str l1)) V := fun V h => hcv1 V (Ext.trans E2.out h)
  have CRG : Hid (∀ V, Ext w2 V → Calls Try.prog 16 #[.string (str l1)] V fun e w' => e = .returned (.string (str (frameB l1))) ∧ Ext V w') := fun V h => CRF.out V (Ext.trans E2.out h)
  clear hcv1
  refine ext_begin (by kernel_rfl) ?_
  have E3d := Lib.hid (Ext.drewR E3.out)
  refine ext_take (i := 0) (v := ?_) rfl (by kernel_rfl) (by kernel_rfl) (by kernel_rfl) (fun _ _ _ h => h) (by rfl) ?_ ?_
  rotate_left
  · intro W hW; have hW0 := Ext.trans E3d.out hW; clear hW; go_simp <;> with_reducible rfl
  try simp only [Act.put, List.setIfInBounds_toArray, List.set_cons_zero, List.set_cons_succ]
  refine ext_take (i := 1) (v := ?_) rfl (by kernel_rfl) (by kernel_rfl) (by kernel_rfl) (fun _ _ _ h => h) (by rfl) ?_ ?_
  rotate_left
  · intro W hW; have hW0 := Ext.trans E3d.out hW; clear hW; go_simp <;> with_reducible rfl
  try simp only [Act.put, List.setIfInBounds_toArray, List.set_cons_zero, List.set_cons_succ]
  refine ext_take (i := 2) (v := ?_) rfl (by kernel_rfl) (by kernel_rfl) (by kernel_rfl) (fun _ _ _ h => h) (by rfl) ?_ ?_
  rotate_left
  · intro W hW; have hW0 := Ext.trans E3d.out hW; clear hW; go_simp <;> with_reducible rfl
  try simp only [Act.put, List.setIfInBounds_toArray, List.set_cons_zero, List.set_cons_succ]
  refine ext_take (i := 3) (v := ?_) rfl (by kernel_rfl) (by kernel_rfl) (by kernel_rfl) (fun _ _ _ h => h) (by rfl) ?_ ?_
  rotate_left
  · intro W hW; have hW0 := Ext.trans E3d.out hW; clear hW; go_simp <;> with_reducible rfl
  try simp only [Act.put, List.setIfInBounds_toArray, List.set_cons_zero, List.set_cons_succ]
  refine ext_take (i := 4) (v := .string (str (frameB l1))) rfl (by kernel_rfl) (by kernel_rfl) (by kernel_rfl) (fun _ _ _ h => h) (by rfl) ?_ ?_
  · intro W hW; have hW0 := Ext.trans E3d.out hW; have hcw := hcvf _ hW0; go_simp; first | done | exact hcw | (rw [hcw])
  try simp only [Act.put, List.setIfInBounds_toArray, List.set_cons_zero, List.set_cons_succ]
  refine ext_take (i := 5) (v := ?_) rfl (by kernel_rfl) (by kernel_rfl) (by kernel_rfl) (fun _ _ _ h => h) (by rfl) ?_ ?_
  rotate_left
  · intro W hW; have hW0 := Ext.trans E3d.out hW; clear hW; go_simp <;> with_reducible rfl
  try simp only [Act.put, List.setIfInBounds_toArray, List.set_cons_zero, List.set_cons_succ]
  refine ext_take (i := 6) (v := .string (str l1)) rfl (by kernel_rfl) (by kernel_rfl) (by kernel_rfl) (fun _ _ _ h => h) (by rfl) ?_ ?_
  · intro W hW; have hW0 := Ext.trans E3d.out hW; have hcw := hcvg _ hW0; go_simp; first | done | exact hcw | (rw [hcw])
  try simp only [Act.put, List.setIfInBounds_toArray, List.set_cons_zero, List.set_cons_succ]
  refine ext_call (i := 7) rfl (by kernel_rfl) (by rfl) (fun K' hK => ?_)
  go_simp
  (go_at_call 16; (with_reducible refine (CRG.out _ E3d.out).mono ?_); rintro e w9 ⟨rfl, hx⟩; refine hK _ _ hx ?_; clear hK)
  have Ew9 := Lib.hid (Ext.trans E3d.out hx)
  clear hx
  try simp only [Act.put, List.setIfInBounds_toArray, List.set_cons_zero, List.set_cons_succ]
  refine ext_take (i := 8) (v := .bool false) rfl (by kernel_rfl) (by kernel_rfl) (by kernel_rfl) (fun _ _ _ h => h) (by rfl) ?_ ?_
  · intro W hW; have hW0 := Ext.trans Ew9.out hW; clear hW; go_simp; all_goals (first | done | (simp; done))
  try simp only [Act.put, List.setIfInBounds_toArray, List.set_cons_zero, List.set_cons_succ]
  refine ext_take (i := 9) (v := ?_) rfl (by kernel_rfl) (by kernel_rfl) (by kernel_rfl) (fun _ _ _ h => h) (by rfl) ?_ ?_
  rotate_left
  · intro W hW; have hW0 := Ext.trans Ew9.out hW; clear hW; go_simp <;> with_reducible rfl
  try simp only [Act.put, List.setIfInBounds_toArray, List.set_cons_zero, List.set_cons_succ]
  refine wpAnyH_done (by kernel_rfl) ?_ _
  have E9 : Hid (Ext w w9) := Ext.trans E2.out Ew9.out
  clear hcvf hcvg
  go_wp2_with fail
  have EW := E9
  have h0 : Ext w w9 := EW.out
  go_wp2_with (first
    | (go_at_call 17; (with_reducible refine (CRD.out _ EW.out).mono ?_); rintro e w3 ⟨A3, c3, rfl, hs3, hx⟩; have HS3 := Lib.hid hs3; have h3 : Ext w w3 := Ext.trans EW.out hx; clear hx hs3)
    | (go_at_call 18; (with_reducible refine (CRR.out _ h3).mono ?_); rintro e w4 ⟨A4, c4, rfl, hs4, hx⟩; have HS4 := Lib.hid hs4; have HS34 : Hid (Sls w4 A3 (readB l0)) := HS3.out.stay hx; have h4 : Ext w w4 := Ext.trans h3 hx; clear hx hs4)
    | (go_at_call 14; (with_reducible refine (HTO.out _).mono ?_); rintro e w5 ⟨rfl, hx⟩; have HS35 : Hid (Sls w5 A3 (readB l0)) := HS34.out.stay hx; have HS45 : Hid (Sl strV w5 A4 (readB l0)) := HS4.out.stay hx; have h5 : Ext w w5 := Ext.trans h4 hx; clear hx)
    | (go_at_call 19; (with_reducible refine (CTX.out _ _ _ _ _ HS35.out HS45.out).mono ?_); rintro e w6 ⟨rfl, hx⟩; have h6 : Ext w w6 := Ext.trans h5 hx; clear hx))
  try go_ret
  exact hD.out _ _ ⟨rfl, h6⟩

set_option maxRecDepth 100000 in
theorem law_walReads {H : Type} {enc : TypeId × Value → H} (W : World) (base : Nat) (args : Array Value) (ds : List (DataW H)) (p : List MemPlace)
    (hval : ∀ (j : Nat) t v, Try.f3.params[j]? = some t → args[j]? = some v → Value.okWide Try.prog W .any base t v)
    (hA : DataW.TrodAll enc Try.prog W 0 (fun _ => true) true Try.f3.params.toList args.toList ds p) :
    Calls Try.prog 3 args W fun e W' => e = .returned (.bool true) ∧ Below W.heap.size W W' := by
  rw [Try.params3] at hA hval
  obtain ⟨v0, vs0, d0, ds0, p0, q0, hargs, rfl, rfl, h0, r0⟩ := trodAll_cons hA
  obtain ⟨v1, vs1, d1, ds1, p1, q1, rfl, rfl, rfl, h1, r1⟩ := trodAll_cons r0
  obtain ⟨rfl, rfl, rfl⟩ := trodAll_nil r1
  obtain rfl : args = #[v0, v1] := by cases args; simp_all
  obtain ⟨A0, n0, c0, rfl⟩ := okWide_slice Try.underlying22 (hval 0 22 v0 rfl rfl)
  obtain ⟨fuel0, hf0⟩ := h0
  obtain ⟨B0, e0, l0, hcs0, x0, y0, z0⟩ := trod_bytes_sl Try.underlying22 Try.underlying5 cells_byte hf0
  simp only [Value.cells, List.cons.injEq, Value.slice.injEq, and_true] at hcs0
  obtain ⟨rfl, rfl, rfl⟩ := hcs0
  obtain ⟨A1, n1, c1, rfl⟩ := okWide_slice Try.underlying22 (hval 1 22 v1 rfl rfl)
  obtain ⟨fuel1, hf1⟩ := h1
  obtain ⟨B1, e1, l1, hcs1, x1, y1, z1⟩ := trod_bytes_sl Try.underlying22 Try.underlying5 cells_byte hf1
  simp only [Value.cells, List.cons.injEq, Value.slice.injEq, and_true] at hcs1
  obtain ⟨rfl, rfl, rfl⟩ := hcs1
  exact walk_walReads A0 c0 l0 A1 c1 l1 W x0 y0 z0 (Nat.le_trans x1 y1) z1

end Go.Proofs.Ytgcclkdlomifcaa
