/-
  What the laws of wal tell of a few; two lists of bytes that are the same.
-/
import Derived.Test.YtgcclkdlomifcaaWalRef
namespace Go.Proofs.Ytgcclkdlomifcaa
set_option linter.unusedVariables false
set_option linter.unusedSimpArgs false
open Go.RowKit

theorem run_strB (A : Option Addr) (l : List UInt8) (cap : Nat) (w : World) (hs : Sl Go.Proofs.Ytgcclkdlomifcaa.u8 w A l) : (convert 22 9 (.slice A l.length cap)).run Try.prog w = .ok (.string (str l)) w :=
  run_str (P := Try.prog) (w := w) 22 9 5 A l cap Try.underlying22 Try.underlying5 Try.underlying9 hs
theorem Sls.at_ {w : World} {A : Option Addr} {xs : List (List UInt8)} (h : Sls w A xs) {j : Nat} (hj : j < xs.length) : ∃ b o A' c', A = some ⟨b, o, none⟩ ∧ w.cell? ⟨b, o + j, none⟩ = some (.slice A' xs[j].length c') ∧ Sl Go.Proofs.Ytgcclkdlomifcaa.u8 w A' xs[j] :=
  h j _ (List.getElem?_eq_getElem hj)

set_option maxHeartbeats 4000000 in
theorem texts_yes (A B : Option Addr) (c d : Nat) (xs : List (List UInt8)) (w : World) (hl : xs.length ≤ 1000000000) (hs : Sls w A xs) (hs2 : Sl strV w B xs) :
    Calls Try.prog 19 #[.slice A xs.length c, .slice B xs.length d] w fun e w' => e = .returned (.bool true) ∧ Ext w w' := by
  refine hide_post fun D hD => ?_
  have HS : Hid (∀ V, Ext w V → Sls V A xs ∧ Sl strV V B xs) := fun V h => ⟨hs.stay h, hs2.stay h⟩
  clear hs hs2
  obtain ⟨n, hn⟩ : ∃ n, n = xs.length := ⟨_, rfl⟩
  rw [← hn] at hl ⊢
  have HN := Lib.hid hn
  clear hn
  have HB0 : Hid (Ext w w) := Ext.refl _
  go_enter Try.func19, Try.ntmps19
  go_wp2
  go_loopw [5] (fun i wr => ∃ k : Nat, k ≤ n ∧ i = .int .i64 k ∧ Hid (Ext w wr)) (fun i _ => n - (intOf i).toNat)
  case atStart => exact ⟨0, Nat.zero_le _, rfl, HB0⟩
  case round =>
    obtain ⟨k, hk, rfl, HE⟩ := hrel
    by_cases hlt : k < n
    · obtain ⟨HA, HB⟩ := HS.out wr HE.out
      obtain ⟨b1, o1, A', c', rfl, hc1, hs1⟩ := HA.at_ (j := k) (by rw [← HN.out]; exact hlt)
      obtain ⟨b2, o2, rfl, hc2⟩ := HB.at_ (k := k) (by rw [← HN.out]; exact hlt)
      clear HA HB
      generalize xs[k]'(by rw [← HN.out]; exact hlt) = x at *
      unfold strV at hc2
      have hcv : ∀ V, Below wr.heap.size wr V → (convert 22 9 (.slice A' x.length c')).run Try.prog V = .ok (.string (str x)) V := fun V h => run_strB A' x c' V (hs1.stay h)
      have fz1 : ∀ V, Frm (fun _ => False) wr V → V.cell? ⟨b1, o1 + k, none⟩ = some (.slice A' x.length c') := fun V h => cell_stay (below_of_frm' h) hc1
      have fz2 : ∀ V, Frm (fun _ => False) wr V → V.cell? ⟨b2, o2 + k, none⟩ = some (.string (str x)) := fun V h => cell_stay (below_of_frm' h) hc2
      have E0 : Hid (Frm (fun _ => False) wr wr) := Frm.refl _ _
      have hk0 : (0 : Int) ≤ (k : Int) := by omega
      have hk1 : (k : Int) < (n : Int) := by omega
      clear hc1 hc2 hs1
      generalize x.length = xn at *
      go_wp2
      refine rz_begin (fun _ => False) [] (by kernel_rfl) ?_
      have E0 : Hid (Frm (fun _ => False) wr wr.drew) := Frm.drew E0.out
      refine rz_take [2, 3, 4, 9] (i := 0) (v := ?_) rfl (by kernel_rfl) (by kernel_rfl) (by kernel_rfl) (by kernel_rfl) (by kernel_rfl) (by kernel_rfl) (fun _ _ _ h => h) (by rfl) ?_ ?_
      rotate_left
      · intro W hW; have hW0 := Frm.tr E0.out hW; clear hW; go_simp <;> with_reducible rfl
      try simp only [Act.put, List.setIfInBounds_toArray, List.set_cons_zero, List.set_cons_succ]
      refine rz_take [2, 3, 4, 9] (i := 1) (v := ?_) rfl (by kernel_rfl) (by kernel_rfl) (by kernel_rfl) (by kernel_rfl) (by kernel_rfl) (by kernel_rfl) (fun _ _ _ h => h) (by rfl) ?_ ?_
      rotate_left
      · intro W hW; have hW0 := Frm.tr E0.out hW; clear hW; go_simp <;> with_reducible rfl
      try simp only [Act.put, List.setIfInBounds_toArray, List.set_cons_zero, List.set_cons_succ]
      refine rz_take [3, 4, 9] (i := 2) (v := ?_) rfl (by kernel_rfl) (by kernel_rfl) (by kernel_rfl) (by kernel_rfl) (by kernel_rfl) (by kernel_rfl) (fun _ _ _ h => h) (by rfl) ?_ ?_
      rotate_left
      · intro W hW; have hW0 := Frm.tr E0.out hW; clear hW; go_simp <;> with_reducible rfl
      try simp only [Act.put, List.setIfInBounds_toArray, List.set_cons_zero, List.set_cons_succ]
      refine rz_take [4, 9] (i := 3) (v := ?_) rfl (by kernel_rfl) (by kernel_rfl) (by kernel_rfl) (by kernel_rfl) (by kernel_rfl) (by kernel_rfl) (fun _ _ _ h => h) (by rfl) ?_ ?_
      rotate_left
      · intro W hW; have hW0 := Frm.tr E0.out hW; clear hW; go_simp <;> with_reducible rfl
      try simp only [Act.put, List.setIfInBounds_toArray, List.set_cons_zero, List.set_cons_succ]
      refine rz_take [9] (i := 4) (v := .string (str x)) rfl (by kernel_rfl) (by kernel_rfl) (by kernel_rfl) (by kernel_rfl) (by kernel_rfl) (by kernel_rfl) (fun _ _ _ h => h) (by rfl) ?_ ?_
      · intro W hW; have hW0 := Frm.tr E0.out hW; clear hW; have hcw := hcv _ (below_of_frm' hW0); go_simp; first | done | exact hcw | (rw [hcw])
      try simp only [Act.put, List.setIfInBounds_toArray, List.set_cons_zero, List.set_cons_succ]
      refine rz_take [7, 8, 9] (i := 5) (v := ?_) rfl (by kernel_rfl) (by kernel_rfl) (by kernel_rfl) (by kernel_rfl) (by kernel_rfl) (by kernel_rfl) (fun _ _ _ h => h) (by rfl) ?_ ?_
      rotate_left
      · intro W hW; have hW0 := Frm.tr E0.out hW; clear hW; go_simp <;> with_reducible rfl
      try simp only [Act.put, List.setIfInBounds_toArray, List.set_cons_zero, List.set_cons_succ]
      refine rz_take [7, 8, 9] (i := 6) (v := ?_) rfl (by kernel_rfl) (by kernel_rfl) (by kernel_rfl) (by kernel_rfl) (by kernel_rfl) (by kernel_rfl) (fun _ _ _ h => h) (by rfl) ?_ ?_
      rotate_left
      · intro W hW; have hW0 := Frm.tr E0.out hW; clear hW; go_simp <;> with_reducible rfl
      try simp only [Act.put, List.setIfInBounds_toArray, List.set_cons_zero, List.set_cons_succ]
      refine rz_take [8, 9] (i := 7) (v := ?_) rfl (by kernel_rfl) (by kernel_rfl) (by kernel_rfl) (by kernel_rfl) (by kernel_rfl) (by kernel_rfl) (fun _ _ _ h => h) (by rfl) ?_ ?_
      rotate_left
      · intro W hW; have hW0 := Frm.tr E0.out hW; clear hW; go_simp <;> with_reducible rfl
      try simp only [Act.put, List.setIfInBounds_toArray, List.set_cons_zero, List.set_cons_succ]
      refine rz_take [9] (i := 8) (v := ?_) rfl (by kernel_rfl) (by kernel_rfl) (by kernel_rfl) (by kernel_rfl) (by kernel_rfl) (by kernel_rfl) (fun _ _ _ h => h) (by rfl) ?_ ?_
      rotate_left
      · intro W hW; have hW0 := Frm.tr E0.out hW; clear hW; go_simp <;> with_reducible rfl
      try simp only [Act.put, List.setIfInBounds_toArray, List.set_cons_zero, List.set_cons_succ]
      refine rz_take [] (i := 9) (v := .bool false) rfl (by kernel_rfl) (by kernel_rfl) (by kernel_rfl) (by kernel_rfl) (by kernel_rfl) (by kernel_rfl) (fun _ _ _ h => h) (by rfl) ?_ ?_
      · intro W hW; have hW0 := Frm.tr E0.out hW; clear hW; go_simp; all_goals (first | done | (simp; done))
      try simp only [Act.put, List.setIfInBounds_toArray, List.set_cons_zero, List.set_cons_succ]
      refine rz_done (by kernel_rfl) ?_ _
      clear fz1 fz2 hcv E0
      go_wp2
      go_roundw
      case rel => exact ⟨k + 1, by omega, by go_num, Ext.drewR HE.out⟩
      case measure => simp [intOf]; omega
    · go_wp2
      try go_ret
      exact hD.out _ _ ⟨rfl, HE.out⟩

theorem kcW (w : World) (C : Array Value) (n c : Nat) : (convert 22 22 (.slice (some ⟨w.heap.size, 0, none⟩) n c)).run Try.prog (w.alloc (.cells C 5)) = .ok (.slice (some ⟨w.heap.size, 0, none⟩) n c) (w.alloc (.cells C 5 (C.size, C.size + 1))) :=
  Lib.run_convert_bytes_const (P := Try.prog) w _ _ C n c Try.underlying22 Try.underlying5
theorem told8_reads : readB (frameB [97] ++ [0, 1, 2]) = [[97]] ∧ endOf (framesB (frameB [97] ++ [0, 1, 2])) = 7 := by decide +kernel

set_option maxRecDepth 100000 in
set_option maxHeartbeats 8000000 in
theorem told8 (V : World) : Calls Try.prog 14 #[] V fun e w' => e = .returned (.bool true) ∧ Ext V w' := by
  refine hide_post fun D hD => ?_
  obtain ⟨V0, hV0⟩ : ∃ V0, V0 = V.alloc (.cells #[.int .u8 97] 5 (1, 2)) := ⟨_, rfl⟩
  have hs0 : Sl Go.Proofs.Ytgcclkdlomifcaa.u8 V0 (some ⟨V.heap.size, 0, none⟩) [97] := by
    rw [hV0]
    exact fun j v hj => ⟨_, 0, rfl, by rw [Nat.zero_add, World.cell?_alloc_mark]; match j, hj with | 0, hj => (simp at hj; subst hj; rfl)⟩
  have C1 : Hid (Calls Try.prog 15 #[.slice (some ⟨V.heap.size, 0, none⟩) 1 1] V0 fun e w' => ∃ A' c', e = .returned (.tuple #[.slice A' 7 c', .int .i64 0]) ∧ w'.ownsRow V0.heap.size 5 1 (.slice A' 7 c') 7 ((frameB [97]).map Go.Proofs.Ytgcclkdlomifcaa.u8) ∧ Ext V0 w') := frame_yes (some ⟨V.heap.size, 0, none⟩) 1 [97] V0 hs0 (by decide) (by decide)
  have C2 : Hid (∀ W, Calls Try.prog 15 #[.slice none 0 0] W fun e w' => e = .returned (.tuple #[.slice none 0 0, .int .i64 1]) ∧ W = w') := fun W => frame_no none 0 0 W (by omega) (.inl (by omega))
  have X0 : Hid (Ext V V0) := by (show Ext _ _); rw [hV0]; exact Ext.alloc _ _
  have HV0 := Lib.hid hV0
  clear hs0 hV0
  have HRD : Hid (∀ (W : World) A c, Sl Go.Proofs.Ytgcclkdlomifcaa.u8 W A (frameB [97] ++ [0, 1, 2]) → 10 ≤ c → c ≤ 9223372036854775807 → Calls Try.prog 17 #[.slice A 10 c] W fun e w' => ∃ A' c', e = .returned (.tuple #[.slice A' 1 c', .int .i64 7]) ∧ Sls w' A' [[97]] ∧ Ext W w') := fun W A c h1 h2 h3 => by
    have hl : (frameB [97] ++ [0, 1, 2]).length = 10 := by rw [List.length_append, frameB_len]; rfl
    have := read_any A c (frameB [97] ++ [0, 1, 2]) W (by omega) (by omega) h3 h1
    rw [hl, told8_reads.1, told8_reads.2] at this
    exact this.mono fun e w' ⟨A', c', h1, h2, _, h4⟩ => ⟨A', c', h1, h2, h4⟩
  have kc := kcW
  go_enter Try.func14, Try.ntmps14
  go_wp2_with fail
  rw [← HV0.out]
  go_at_call 15
  with_reducible refine C1.out.mono ?_
  rintro e w1 ⟨A1, c1, rfl, ho, hx⟩
  have HO1 := Lib.hid ho
  have X1 : Hid (Ext V w1) := Ext.trans X0.out hx
  clear ho hx kc
  have HM1 : Hid ((w1.alloc (.cells #[] 5)).ownsRow V.heap.size 5 1 (.slice (some ⟨w1.heap.size, 0, none⟩) 0 0) 0 []) := World.ownsRow_made (base := V.heap.size) (e := 5) (size := 1) w1 #[] 0 X1.out.size (Nat.zero_le _) rfl
  have HSl1 : Hid (Sl Go.Proofs.Ytgcclkdlomifcaa.u8 (w1.alloc (.cells #[] 5)) A1 (frameB [97])) := by
    have h1 := own_view (l := frameB [97]) (v := .slice A1 7 c1) HO1.out
    obtain ⟨A9, c9, e, hs⟩ := h1
    injection e with e1 e2 e3
    subst e1
    exact hs.stay (Ext.alloc _ _)
  have HF7 : Hid (7 = (frameB [97]).length) := by (show _ = _); rw [frameB_len]; rfl
  have hz1 := X1.out.size
  clear HO1
  go_wp2_with (first
    | (go_at_call 15; (with_reducible refine (C2.out _).mono ?_); rintro e w2 ⟨rfl, rfl⟩)
    | (at_builtin; refine wpList_append_list rfl (.tmp 18) (.tmp 19) 22 rfl V.heap.size 5 (.int .u8 0) 1 Try.underlying22 info_byte rfl (by omega) (.slice (some ⟨w1.heap.size, 0, none⟩) 0 0) 0 [] rfl HM1.out Go.Proofs.Ytgcclkdlomifcaa.u8 A1 (frameB [97]) 7 c1 HF7.out rfl HSl1.out (fun _ => rfl) (by have := HF7.out; omega) (by simp; omega) ?_; intro v' w3 h1 h2 h3; obtain ⟨A3, c3, rfl⟩ := own_shape h1; rw [← HF7.out] at h1; have HO3 : Hid (w3.ownsRow V.heap.size 5 1 (.slice A3 7 c3) 7 ((frameB [97]).map Go.Proofs.Ytgcclkdlomifcaa.u8)) := h1; have X3 : Hid (Ext V w3) := (Ext.trans X1.out (Ext.alloc _ _)).grown h2 (by simp; omega) (fun k hk => (HM1.out.lt k hk).1); clear h1 h2 h3)
    | (at_builtin; refine wpList_append_list rfl (.tmp 20) (.tmp 21) 22 rfl V.heap.size 5 (.int .u8 0) 1 Try.underlying22 info_byte rfl (by omega) (.slice A3 7 c3) 7 ((frameB [97]).map Go.Proofs.Ytgcclkdlomifcaa.u8) rfl (HO3.out.alloc _) Go.Proofs.Ytgcclkdlomifcaa.u8 (some ⟨w3.heap.size, 0, none⟩) [0, 1, 2] 3 3 rfl rfl (Sl.of_blk (f := Go.Proofs.Ytgcclkdlomifcaa.u8) (Blk.new w3 5 #[.int .u8 0, .int .u8 1, .int .u8 2]) (fun j v hj => by match j, hj with | 0, hj => (simp at hj; subst hj; rfl) | 1, hj => (simp at hj; subst hj; rfl) | 2, hj => (simp at hj; subst hj; rfl))) (fun _ => rfl) (by simp) (by have := X3.out.size; simp; omega) ?_; intro v' w4 h1 h2 h3; obtain ⟨A4, c4, rfl⟩ := own_shape h1; have HO4 := Lib.hid h1; have X4 : Hid (Ext V w4) := (Ext.trans X3.out (Ext.alloc _ _)).grown h2 (by have := X3.out.size; simp; omega) (fun k hk => (HO3.out.lt k hk).1); clear h1 h2 h3))
  have HS4 : Hid (Sl Go.Proofs.Ytgcclkdlomifcaa.u8 w4 A4 (frameB [97] ++ [0, 1, 2])) := by
    have hl : (frameB [97] ++ [0, 1, 2]).length = 10 := by rw [List.length_append, frameB_len]; rfl
    have h1 := own_view (f := Go.Proofs.Ytgcclkdlomifcaa.u8) (l := frameB [97] ++ [0, 1, 2]) (v := .slice A4 10 c4) (by rw [hl, List.map_append]; exact HO4.out)
    obtain ⟨A9, c9, e, hs⟩ := h1
    injection e with e1 e2 e3
    subst e1
    exact hs
  have HC4 : Hid (10 ≤ c4 ∧ c4 ≤ 9223372036854775807) := by
    have h3 : ([0, 1, 2] : List UInt8).length = 3 := rfl
    rcases HO4.out.2 with ⟨e, hn⟩ | ⟨g, c, cur, e, _, _, h1, h2, _⟩
    · injection e with e1 e2 e3; omega
    · injection e with e1 e2 e3; unfold maxLen at h2; exact ⟨by omega, by omega⟩
  clear HM1 HSl1 HF7 HO4
  go_wp2_with fail
  go_at_call 17
  with_reducible refine (HRD.out w4 A4 c4 HS4.out HC4.out.1 HC4.out.2).mono ?_
  rintro e w5 ⟨A5, c5, rfl, hs5, hx⟩
  obtain ⟨b5, o5, A6, c6, rfl, cl, hs6⟩ := hs5.at_ (j := 0) (by simp)
  have cl : w5.cell? ⟨b5, o5, none⟩ = some (.slice A6 1 c6) := cl
  have hcv : (convert 22 9 (.slice A6 1 c6)).run Try.prog w5 = .ok (.string ⟨#[97]⟩) w5 := run_strB A6 [97] c6 w5 hs6
  have X5 : Hid (Ext V w5) := Ext.trans X4.out hx
  clear hx hs5 hs6
  go_wp2
  try go_ret
  exact hD.out _ _ ⟨rfl, X5.out⟩
end Go.Proofs.Ytgcclkdlomifcaa
