/-
  The walk of the law DiskPlays.
-/
import Derived.Test.YtbjekbbokhjfmaaDCrash
import Derived.Test.YtbjekbbokhjfmaaOpenOps
import Derived.Laws.Concat
import Derived.Test.YtbjekbbokhjfmaaOpenReq
import Derived.BigRegion
import Derived.Deep.CutBlock
namespace Go.Proofs.Ytbjekbbokhjfmaa
set_option linter.unusedVariables false
set_option linter.unusedSimpArgs false
open Go.RowKit Go.ChangeShapes Go.WideShapes

theorem str_append (a b : List UInt8) : str (a ++ b) = str a ++ str b := by
  apply ByteArray.ext
  rw [ByteArray.data_append]
  simp [str]

theorem Ext.drewR {w w1 : World} (h : Ext w w1) : Ext w w1.drew := Below.drew h
theorem dk_frm {W w w' : World} {P s X : Nat} {l : List UInt8} {t : TypeId} {cs : Array Value} (H : Dk W w P l s) (hB : Blk w X t cs) (ht : t ≠ 75 ∧ t ≠ 5) (hX : W.heap.size ≤ X) (hf : Frm (fun k => k = X) w w') : Dk W w' P l s := by
  obtain ⟨h1, h2, h3, g, h4⟩ := H
  obtain ⟨q1, q2⟩ := h4.far hB ht.1 ht.2
  exact ⟨Frm.step h1 hf h1.size (fun k hk => by rw [hk]; exact hX), h2, h3, g, h4.frm hf (fun h => q1 h.symm) (fun k hk h => q2 (by rw [hk, h]))⟩

/-- what a round asks a disk at its end -/
theorem asks {W w6 : World} {P s : Nat} {l : List UInt8} (H : Dk W w6 P l s) (hl : l.length ≤ 1000000000000) :
    Hid (∀ V, Ext w6 V → Calls Try.prog 39 #[.pointer (some ⟨P, 0, none⟩)] V fun e w' => ∃ A, e = .returned (.slice A l.length l.length) ∧ Ext V w' ∧ ∀ W', Ext w' W' → (convert 56 9 (.slice A l.length l.length)).run Try.prog W' = .ok (.string (str l)) W') ∧
    Hid (∀ V, Ext w6 V → Calls Try.prog 40 #[.pointer (some ⟨P, 0, none⟩)] V fun e w' => e = .returned (.int .i64 l.length) ∧ Ext V w') ∧
    Hid (∀ V, Ext w6 V → Calls Try.prog 41 #[.pointer (some ⟨P, 0, none⟩)] V fun e w' => e = .returned (.int .i64 s) ∧ Ext V w') :=
  ⟨fun V hV => dk_bytes' (H.stay hV) hl, fun V hV => (dk_len (H.stay hV) hl).mono fun _ _ ⟨he, h⟩ => ⟨he, h ▸ Ext.refl _⟩, fun V hV => (dk_synced (H.stay hV)).mono fun _ _ ⟨he, h⟩ => ⟨he, h ▸ Ext.refl _⟩⟩

set_option maxRecDepth 8000 in
set_option maxHeartbeats 16000000 in
theorem walk_diskPlays (A : Option Addr) (n cap : Nat) (w : World) (hn : n ≤ 9223372036854775807) (hs : Sop w A n) :
    Calls Try.prog 11 #[.slice A n cap] w fun e w' => e = .returned (.bool true) ∧ Below w.heap.size w w' := by
  refine hide_post fun D hD => ?_
  have HS := Lib.hid hs
  clear hs
  go_enter Try.func11, Try.ntmps11
  go_wp2_with (go_at_call 31; (with_reducible refine (dk_new w _ (Below.refl _ _)).mono ?_); rintro e w0 ⟨rfl, h, _⟩; have K0 := Lib.hid h; clear h)
  obtain ⟨X, hX⟩ : ∃ X, X = w0.heap.size := ⟨_, rfl⟩
  have HXW : Hid (w.heap.size ≤ X) := by (show _ ≤ _); rw [hX]; exact K0.out.1.size
  have HXB : Hid (Blk (w0.alloc (.cells #[.string (str []), .int .i64 (0 : Nat)] 55)) X 55 #[.string (str []), .int .i64 (0 : Nat)]) := by (show Blk _ _ _ _); rw [hX]; exact Blk.new _ _ _
  have HXD : Hid (Dk w (w0.alloc (.cells #[.string (str []), .int .i64 (0 : Nat)] 55)) w.heap.size [] 0) := K0.out.stay ((Below.refl _ _).alloc (Nat.le_refl _) _)
  rw [← hX]
  clear hX
  go_loopw [3, 5] (fun d i wr => ∃ (j P : Nat) (l : List UInt8) (s : Nat), j ≤ n ∧ j ≤ 60 ∧ i = .int .i64 j ∧ d = .pointer (some ⟨P, 0, none⟩) ∧ l.length ≤ 50 * j ∧ Hid (Dk w wr P l s) ∧ Hid (Blk wr X 55 #[.string (str l), .int .i64 s])) (fun _ i _ => 60 - (intOf i).toNat)
  case atStart => exact ⟨0, w.heap.size, [], 0, by omega, by omega, rfl, rfl, by simp, HXD, HXB⟩
  case round =>
    obtain ⟨j, P, l, s, hj, hj2, rfl, rfl, hl, HD, HX⟩ := hrel
    by_cases hlt : j < n ∧ j < 60
    · obtain ⟨hlt, hlt2⟩ := hlt
      obtain ⟨b0, o0, rfl, k, m, B, cap2, b, c0, c1, c2, hsl, hc1, hc2, hm1, hm2⟩ := HS.out j hlt
      have HSL := Lib.hid hsl
      clear hsl
      replace c0 := cell_stay HD.out.1 c0
      replace c1 := cell_stay HD.out.1 c1
      replace c2 := cell_stay HD.out.1 c2
      obtain ⟨n2, hn2⟩ : ∃ n2, b.length = n2 := ⟨_, rfl⟩
      rw [hn2] at c2 hc1
      have HN2 := Lib.hid hn2
      clear hn2
      obtain ⟨w1, hw1⟩ : ∃ w1, w1 = wr.alloc (.cells #[.int .i64 k, .int .i64 m, .slice B n2 cap2] 58) := ⟨_, rfl⟩
      have HW1 := Lib.hid hw1
      have HB1 : Hid (Ext wr w1) := by (show Ext _ _); rw [hw1]; exact (Below.refl _ _).alloc (Nat.le_refl _) _
      have HO1 : Hid (Blk w1 wr.heap.size 58 #[.int .i64 k, .int .i64 m, .slice B n2 cap2]) := by (show Blk _ _ _ _); rw [hw1]; exact Blk.new _ _ _
      have HX1 := Lib.hid (HX.out.stay HB1.out)
      have HD1 := Lib.hid (HD.out.stay HB1.out)
      clear hw1
      have hs0 : s ≤ l.length := HD1.out.2.2.1
      rcases (show (k = 0 ∧ 50 < n2) ∨ (k = 0 ∧ ¬ 50 < n2) ∨ k = 1 ∨ (k = 2 ∧ (0 ≤ m ∧ m ≤ (l.length : Int))) ∨ (k = 2 ∧ m < 0) ∨ (k = 2 ∧ (l.length : Int) < m) ∨ k = 3 ∨ (¬ k = 0 ∧ ¬ k = 1 ∧ ¬ k = 2 ∧ ¬ k = 3) by omega) with ⟨rfl, g⟩ | ⟨rfl, g⟩ | rfl | ⟨rfl, g⟩ | ⟨rfl, g⟩ | ⟨rfl, g⟩ | rfl | g
      ·
          go_wp2_with (first
            | (go_at_call 32; rw [← HW1.out]; (with_reducible refine (told_disk _).mono ?_); rintro e w2 ⟨rfl, hb⟩; have HB2 := Lib.hid hb; clear hb))
          try go_ret
          exact hD.out _ _ ⟨rfl, Below.step HD1.out.1 HB2.out⟩
      ·
          have HC : Hid (Calls Try.prog 33 #[.pointer (some ⟨P, 0, none⟩), .slice B n2 cap2] w1 fun e w' => e = .returned (.tuple #[]) ∧ Dk w w' P (l ++ b) s ∧ Oth w1 w') := by (show Calls _ _ _ _ _); rw [← HN2.out]; exact dk_append HD1.out B cap2 b (HSL.out.stay HD1.out.1) (by have := HN2.out; omega)
          go_wp2_with (first
            | (go_at_call 33; rw [← HW1.out]; (with_reducible refine (HC.out).mono ?_); rintro e w2 ⟨rfl, hh1, hh2⟩; have HD2 := Lib.hid hh1; have HX2 := Lib.hid (hh2 _ _ _ HX1.out (by decide) (by decide)); have HO2 := Lib.hid (hh2 _ _ _ HO1.out (by decide) (by decide)); clear hh1 hh2; have x0 := HX2.out.cell 0; have x1 := HX2.out.cell 1; have fx0 := HX2.out.frozen 0; have fx1 := HX2.out.frozen 1; simp at x0 x1; have q0 := HO2.out.cell 0; have q1 := HO2.out.cell 1; have q2 := HO2.out.cell 2; simp at q0 q1 q2))
          have hcv : ∀ W, Ext w2 W → (convert 56 9 (.slice B n2 cap2)).run Try.prog W = .ok (.string (str b)) W := fun W hW => by rw [← HN2.out]; exact run_str _ _ 5 _ b _ Try.underlying56 Try.underlying5 Try.underlying9 (HSL.out.stay (Below.step HD2.out.1 hW))
          have hcv0 := hcv w2 (Ext.refl _)
          have hcv1 := hcv w2.drew (Ext.drewR (Ext.refl _))
          clear hcv
          have HA := Lib.hid (str_append l b)
          have hza : ¬ 9223372036854775807 < (str l).size + (str b).size := by rw [str_size, str_size]; have := HN2.out; omega
          generalize str l = SL at *
          generalize str b = SB at *
          go_still_tail 11, (by kernel_rfl)
          change wpList _ _ _ _ _ w2.drew
          go_wp2_with fail
          clear x0 x1 fx0 fx1 q0 q1 q2 hcv0 hcv1 hza
          obtain ⟨w6, hw6⟩ : ∃ w6, w6 = (w2.setCell ⟨X, 0, none⟩ (.string (SL ++ SB))).drew := ⟨_, rfl⟩
          rw [← hw6]
          obtain ⟨T, hT⟩ : ∃ T, T = l ++ b := ⟨_, rfl⟩
          obtain ⟨S, hS⟩ : ∃ S, S = s := ⟨_, rfl⟩
          have HX6 : Hid (Blk w6 X 55 #[.string (str T), .int .i64 (S : Nat)]) := by (show Blk _ _ _ _); rw [hT, hS, HA.out, hw6]; exact (HX2.out.set 0 _)
          have HD6 : Hid (Dk w w6 P T S) := by (show Dk _ _ _ _ _); rw [hT, hS, hw6]; exact dk_frm HD2.out HX2.out (by decide) HXW.out (Frm.of_set (s := fun k => k = X) _ _ _ rfl).drew
          have HL6 : Hid (T.length ≤ 50 * (j + 1)) := by (show _ ≤ _); rw [hT]; have := HN2.out; simp; omega
          clear hw6 HA HC HX2 HD2 HO2
          clear hT hS
          clear HX1 HD1 HO1 HB1 HD HX HSL
          obtain ⟨HBY, HLN, HSY⟩ := asks HD6.out (by have := HL6.out; omega)
          obtain ⟨Z, hZ⟩ : ∃ Z, T.length = Z := ⟨_, rfl⟩
          obtain ⟨ST, hST⟩ : ∃ ST, str T = ST := ⟨_, rfl⟩
          rw [hZ] at HBY HLN HL6
          rw [hST] at HX6 HBY
          have HZ := Lib.hid hZ
          have HST := Lib.hid hST
          clear hZ hST
          have hsz : ST.size = Z := by rw [← HST.out, str_size, HZ.out]
          have EX := Lib.hid (Ext.refl w6)
          refine ext_begin (by kernel_rfl) ?_
          have EXd := Lib.hid (Ext.drewR EX.out)
          refine ext_take (i := 0) (v := ?_) rfl (by kernel_rfl) (by kernel_rfl) (by kernel_rfl) (fun _ _ _ h => h) (by rfl) ?_ ?_
          rotate_left
          · intro W hW; have hW0 := Ext.trans EXd.out hW; clear hW; go_simp <;> with_reducible rfl
          try simp only [Act.put, List.setIfInBounds_toArray, List.set_cons_zero, List.set_cons_succ]
          refine ext_take (i := 3) (v := ?_) rfl (by kernel_rfl) (by kernel_rfl) (by kernel_rfl) (fun _ _ _ h => h) (by rfl) ?_ ?_
          rotate_left
          · intro W hW; have hW0 := Ext.trans EXd.out hW; clear hW; go_simp <;> with_reducible rfl
          try simp only [Act.put, List.setIfInBounds_toArray, List.set_cons_zero, List.set_cons_succ]
          refine ext_take (i := 4) (v := ?_) rfl (by kernel_rfl) (by kernel_rfl) (by kernel_rfl) (fun _ _ _ h => h) (by rfl) ?_ ?_
          rotate_left
          · intro W hW; have hW0 := Ext.trans EXd.out hW; clear hW; go_simp <;> with_reducible rfl
          try simp only [Act.put, List.setIfInBounds_toArray, List.set_cons_zero, List.set_cons_succ]
          refine ext_take (i := 5) (v := ?_) rfl (by kernel_rfl) (by kernel_rfl) (by kernel_rfl) (fun _ _ _ h => h) (by rfl) ?_ ?_
          rotate_left
          · intro W hW; have hW0 := Ext.trans EXd.out hW; clear hW; go_simp <;> with_reducible rfl
          try simp only [Act.put, List.setIfInBounds_toArray, List.set_cons_zero, List.set_cons_succ]
          refine ext_take (i := 6) (v := .string ST) rfl (by kernel_rfl) (by kernel_rfl) (by kernel_rfl) (fun _ _ _ h => h) (by rfl) ?_ ?_
          · intro W hW; have hW0 := Ext.trans EXd.out hW; clear hW; have z := (HX6.out.stay hW0).cell 0; go_simp
          try simp only [Act.put, List.setIfInBounds_toArray, List.set_cons_zero, List.set_cons_succ]
          refine ext_call (i := 1) rfl (by kernel_rfl) (by rfl) (fun K' hK => ?_)
          go_simp
          (go_at_call 39; (with_reducible refine (HBY.out _ EXd.out).mono ?_); rintro e w7 ⟨A7, rfl, hx, hcv⟩; refine hK _ _ hx ?_; clear hK)
          have Ew7 := Lib.hid (Ext.trans EXd.out hx)
          have HCV := Lib.hid hcv; clear hcv
          clear hx
          try simp only [Act.put, List.setIfInBounds_toArray, List.set_cons_zero, List.set_cons_succ]
          refine ext_take (i := 2) (v := .string ST) rfl (by kernel_rfl) (by kernel_rfl) (by kernel_rfl) (fun _ _ _ h => h) (by rfl) ?_ ?_
          · intro W hW; have hW0 := Ext.trans Ew7.out hW; have z := HCV.out W hW; go_simp
          try simp only [Act.put, List.setIfInBounds_toArray, List.set_cons_zero, List.set_cons_succ]
          refine ext_take (i := 7) (v := ?_) rfl (by kernel_rfl) (by kernel_rfl) (by kernel_rfl) (fun _ _ _ h => h) (by rfl) ?_ ?_
          rotate_left
          · intro W hW; have hW0 := Ext.trans Ew7.out hW; clear hW; go_simp <;> with_reducible rfl
          try simp only [Act.put, List.setIfInBounds_toArray, List.set_cons_zero, List.set_cons_succ]
          refine ext_take (i := 8) (v := ?_) rfl (by kernel_rfl) (by kernel_rfl) (by kernel_rfl) (fun _ _ _ h => h) (by rfl) ?_ ?_
          rotate_left
          · intro W hW; have hW0 := Ext.trans Ew7.out hW; clear hW; go_simp <;> with_reducible rfl
          try simp only [Act.put, List.setIfInBounds_toArray, List.set_cons_zero, List.set_cons_succ]
          refine ext_take (i := 9) (v := ?_) rfl (by kernel_rfl) (by kernel_rfl) (by kernel_rfl) (fun _ _ _ h => h) (by rfl) ?_ ?_
          rotate_left
          · intro W hW; have hW0 := Ext.trans Ew7.out hW; clear hW; go_simp <;> with_reducible rfl
          try simp only [Act.put, List.setIfInBounds_toArray, List.set_cons_zero, List.set_cons_succ]
          refine ext_take (i := 11) (v := ?_) rfl (by kernel_rfl) (by kernel_rfl) (by kernel_rfl) (fun _ _ _ h => h) (by rfl) ?_ ?_
          rotate_left
          · intro W hW; have hW0 := Ext.trans Ew7.out hW; clear hW; go_simp <;> with_reducible rfl
          try simp only [Act.put, List.setIfInBounds_toArray, List.set_cons_zero, List.set_cons_succ]
          refine ext_take (i := 12) (v := ?_) rfl (by kernel_rfl) (by kernel_rfl) (by kernel_rfl) (fun _ _ _ h => h) (by rfl) ?_ ?_
          rotate_left
          · intro W hW; have hW0 := Ext.trans Ew7.out hW; clear hW; go_simp <;> with_reducible rfl
          try simp only [Act.put, List.setIfInBounds_toArray, List.set_cons_zero, List.set_cons_succ]
          refine ext_take (i := 13) (v := ?_) rfl (by kernel_rfl) (by kernel_rfl) (by kernel_rfl) (fun _ _ _ h => h) (by rfl) ?_ ?_
          rotate_left
          · intro W hW; have hW0 := Ext.trans Ew7.out hW; clear hW; go_simp <;> with_reducible rfl
          try simp only [Act.put, List.setIfInBounds_toArray, List.set_cons_zero, List.set_cons_succ]
          refine ext_take (i := 14) (v := .string ST) rfl (by kernel_rfl) (by kernel_rfl) (by kernel_rfl) (fun _ _ _ h => h) (by rfl) ?_ ?_
          · intro W hW; have hW0 := Ext.trans Ew7.out hW; clear hW; have z := (HX6.out.stay hW0).cell 0; go_simp
          try simp only [Act.put, List.setIfInBounds_toArray, List.set_cons_zero, List.set_cons_succ]
          refine ext_take (i := 15) (v := ?_) rfl (by kernel_rfl) (by kernel_rfl) (by kernel_rfl) (fun _ _ _ h => h) (by rfl) ?_ ?_
          rotate_left
          · intro W hW; have hW0 := Ext.trans Ew7.out hW; clear hW; go_simp <;> with_reducible rfl
          try simp only [Act.put, List.setIfInBounds_toArray, List.set_cons_zero, List.set_cons_succ]
          refine ext_call (i := 10) rfl (by kernel_rfl) (by rfl) (fun K' hK => ?_)
          go_simp
          (go_at_call 40; (with_reducible refine (HLN.out _ Ew7.out).mono ?_); rintro e w8 ⟨rfl, hx⟩; refine hK _ _ hx ?_; clear hK)
          have Ew8 := Lib.hid (Ext.trans Ew7.out hx)
          clear hx
          try simp only [Act.put, List.setIfInBounds_toArray, List.set_cons_zero, List.set_cons_succ]
          refine ext_take (i := 16) (v := ?_) rfl (by kernel_rfl) (by kernel_rfl) (by kernel_rfl) (fun _ _ _ h => h) (by rfl) ?_ ?_
          rotate_left
          · intro W hW; have hW0 := Ext.trans Ew8.out hW; clear hW; go_simp <;> with_reducible rfl
          try simp only [Act.put, List.setIfInBounds_toArray, List.set_cons_zero, List.set_cons_succ]
          refine ext_take (i := 17) (v := ?_) rfl (by kernel_rfl) (by kernel_rfl) (by kernel_rfl) (fun _ _ _ h => h) (by rfl) ?_ ?_
          rotate_left
          · intro W hW; have hW0 := Ext.trans Ew8.out hW; clear hW; go_simp <;> with_reducible rfl
          try simp only [Act.put, List.setIfInBounds_toArray, List.set_cons_zero, List.set_cons_succ]
          refine ext_take (i := 18) (v := ?_) rfl (by kernel_rfl) (by kernel_rfl) (by kernel_rfl) (fun _ _ _ h => h) (by rfl) ?_ ?_
          rotate_left
          · intro W hW; have hW0 := Ext.trans Ew8.out hW; clear hW; go_simp <;> with_reducible rfl
          try simp only [Act.put, List.setIfInBounds_toArray, List.set_cons_zero, List.set_cons_succ]
          refine ext_take (i := 19) (v := ?_) rfl (by kernel_rfl) (by kernel_rfl) (by kernel_rfl) (fun _ _ _ h => h) (by rfl) ?_ ?_
          rotate_left
          · intro W hW; have hW0 := Ext.trans Ew8.out hW; clear hW; go_simp <;> with_reducible rfl
          try simp only [Act.put, List.setIfInBounds_toArray, List.set_cons_zero, List.set_cons_succ]
          refine ext_take (i := 21) (v := ?_) rfl (by kernel_rfl) (by kernel_rfl) (by kernel_rfl) (fun _ _ _ h => h) (by rfl) ?_ ?_
          rotate_left
          · intro W hW; have hW0 := Ext.trans Ew8.out hW; clear hW; go_simp <;> with_reducible rfl
          try simp only [Act.put, List.setIfInBounds_toArray, List.set_cons_zero, List.set_cons_succ]
          refine ext_take (i := 22) (v := ?_) rfl (by kernel_rfl) (by kernel_rfl) (by kernel_rfl) (fun _ _ _ h => h) (by rfl) ?_ ?_
          rotate_left
          · intro W hW; have hW0 := Ext.trans Ew8.out hW; clear hW; go_simp <;> with_reducible rfl
          try simp only [Act.put, List.setIfInBounds_toArray, List.set_cons_zero, List.set_cons_succ]
          refine ext_take (i := 23) (v := ?_) rfl (by kernel_rfl) (by kernel_rfl) (by kernel_rfl) (fun _ _ _ h => h) (by rfl) ?_ ?_
          rotate_left
          · intro W hW; have hW0 := Ext.trans Ew8.out hW; clear hW; go_simp <;> with_reducible rfl
          try simp only [Act.put, List.setIfInBounds_toArray, List.set_cons_zero, List.set_cons_succ]
          refine ext_take (i := 24) (v := .int .i64 S) rfl (by kernel_rfl) (by kernel_rfl) (by kernel_rfl) (fun _ _ _ h => h) (by rfl) ?_ ?_
          · intro W hW; have hW0 := Ext.trans Ew8.out hW; clear hW; have z := (HX6.out.stay hW0).cell 1; go_simp
          try simp only [Act.put, List.setIfInBounds_toArray, List.set_cons_zero, List.set_cons_succ]
          refine ext_call (i := 20) rfl (by kernel_rfl) (by rfl) (fun K' hK => ?_)
          go_simp
          (go_at_call 41; (with_reducible refine (HSY.out _ Ew8.out).mono ?_); rintro e w9 ⟨rfl, hx⟩; refine hK _ _ hx ?_; clear hK)
          have Ew9 := Lib.hid (Ext.trans Ew8.out hx)
          clear hx
          try simp only [Act.put, List.setIfInBounds_toArray, List.set_cons_zero, List.set_cons_succ]
          refine ext_take (i := 25) (v := ?_) rfl (by kernel_rfl) (by kernel_rfl) (by kernel_rfl) (fun _ _ _ h => h) (by rfl) ?_ ?_
          rotate_left
          · intro W hW; have hW0 := Ext.trans Ew9.out hW; clear hW; go_simp <;> with_reducible rfl
          try simp only [Act.put, List.setIfInBounds_toArray, List.set_cons_zero, List.set_cons_succ]
          refine ext_take (i := 26) (v := ?_) rfl (by kernel_rfl) (by kernel_rfl) (by kernel_rfl) (fun _ _ _ h => h) (by rfl) ?_ ?_
          rotate_left
          · intro W hW; have hW0 := Ext.trans Ew9.out hW; clear hW; go_simp <;> with_reducible rfl
          try simp only [Act.put, List.setIfInBounds_toArray, List.set_cons_zero, List.set_cons_succ]
          refine wpAnyH_done (by kernel_rfl) ?_ _
          go_wp2_with fail
          go_roundw
          case rel => exact ⟨j + 1, P, T, S, by omega, by omega, by go_num, rfl, (by have h1 := HZ.out; have h2 := HL6.out; omega), Lib.hid (HD6.out.stay Ew9.out), Lib.hid (by rw [HST.out]; exact HX6.out.stay Ew9.out)⟩
          case measure => simp [intOf]; omega
      ·
          have HC : Hid (Calls Try.prog 34 #[.pointer (some ⟨P, 0, none⟩)] w1 fun e w' => e = .returned (.tuple #[]) ∧ Dk w w' P l l.length ∧ Oth w1 w') := dk_sync HD1.out (by omega)
          have hz : (str l).size = l.length := str_size l
          obtain ⟨SL, hSL⟩ : ∃ SL, str l = SL := ⟨_, rfl⟩
          rw [hSL] at HX1 hz
          have HSS := Lib.hid hSL
          clear hSL
          go_wp2_with (first
            | (go_at_call 34; rw [← HW1.out]; (with_reducible refine (HC.out).mono ?_); rintro e w2 ⟨rfl, hh1, hh2⟩; have HD2 := Lib.hid hh1; have HX2 := Lib.hid (hh2 _ _ _ HX1.out (by decide) (by decide)); have HO2 := Lib.hid (hh2 _ _ _ HO1.out (by decide) (by decide)); clear hh1 hh2; have x0 := HX2.out.cell 0; have x1 := HX2.out.cell 1; have fx0 := HX2.out.frozen 0; have fx1 := HX2.out.frozen 1; simp at x0 x1))
          clear x0 x1 fx0 fx1 hz
          obtain ⟨w6, hw6⟩ : ∃ w6, w6 = w2.setCell ⟨X, 1, none⟩ (.int .i64 l.length) := ⟨_, rfl⟩
          rw [← hw6]
          obtain ⟨T, hT⟩ : ∃ T, T = l := ⟨_, rfl⟩
          obtain ⟨S, hS⟩ : ∃ S, S = l.length := ⟨_, rfl⟩
          have HX6 : Hid (Blk w6 X 55 #[.string (str T), .int .i64 (S : Nat)]) := by (show Blk _ _ _ _); rw [hT, hS, HSS.out, hw6]; exact (HX2.out.set 1 _)
          have HD6 : Hid (Dk w w6 P T S) := by (show Dk _ _ _ _ _); rw [hT, hS, hw6]; exact dk_frm HD2.out HX2.out (by decide) HXW.out (Frm.of_set (s := fun k => k = X) _ _ _ rfl)
          have HL6 : Hid (T.length ≤ 50 * (j + 1)) := by (show _ ≤ _); rw [hT]; omega
          clear hw6 HSS HC HX2 HD2 HO2
          clear hT hS
          clear HX1 HD1 HO1 HB1 HD HX HSL
          obtain ⟨HBY, HLN, HSY⟩ := asks HD6.out (by have := HL6.out; omega)
          obtain ⟨Z, hZ⟩ : ∃ Z, T.length = Z := ⟨_, rfl⟩
          obtain ⟨ST, hST⟩ : ∃ ST, str T = ST := ⟨_, rfl⟩
          rw [hZ] at HBY HLN HL6
          rw [hST] at HX6 HBY
          have HZ := Lib.hid hZ
          have HST := Lib.hid hST
          clear hZ hST
          have hsz : ST.size = Z := by rw [← HST.out, str_size, HZ.out]
          have EX := Lib.hid (Ext.refl w6)
          refine ext_begin (by kernel_rfl) ?_
          have EXd := Lib.hid (Ext.drewR EX.out)
          refine ext_take (i := 0) (v := ?_) rfl (by kernel_rfl) (by kernel_rfl) (by kernel_rfl) (fun _ _ _ h => h) (by rfl) ?_ ?_
          rotate_left
          · intro W hW; have hW0 := Ext.trans EXd.out hW; clear hW; go_simp <;> with_reducible rfl
          try simp only [Act.put, List.setIfInBounds_toArray, List.set_cons_zero, List.set_cons_succ]
          refine ext_take (i := 3) (v := ?_) rfl (by kernel_rfl) (by kernel_rfl) (by kernel_rfl) (fun _ _ _ h => h) (by rfl) ?_ ?_
          rotate_left
          · intro W hW; have hW0 := Ext.trans EXd.out hW; clear hW; go_simp <;> with_reducible rfl
          try simp only [Act.put, List.setIfInBounds_toArray, List.set_cons_zero, List.set_cons_succ]
          refine ext_take (i := 4) (v := ?_) rfl (by kernel_rfl) (by kernel_rfl) (by kernel_rfl) (fun _ _ _ h => h) (by rfl) ?_ ?_
          rotate_left
          · intro W hW; have hW0 := Ext.trans EXd.out hW; clear hW; go_simp <;> with_reducible rfl
          try simp only [Act.put, List.setIfInBounds_toArray, List.set_cons_zero, List.set_cons_succ]
          refine ext_take (i := 5) (v := ?_) rfl (by kernel_rfl) (by kernel_rfl) (by kernel_rfl) (fun _ _ _ h => h) (by rfl) ?_ ?_
          rotate_left
          · intro W hW; have hW0 := Ext.trans EXd.out hW; clear hW; go_simp <;> with_reducible rfl
          try simp only [Act.put, List.setIfInBounds_toArray, List.set_cons_zero, List.set_cons_succ]
          refine ext_take (i := 6) (v := .string ST) rfl (by kernel_rfl) (by kernel_rfl) (by kernel_rfl) (fun _ _ _ h => h) (by rfl) ?_ ?_
          · intro W hW; have hW0 := Ext.trans EXd.out hW; clear hW; have z := (HX6.out.stay hW0).cell 0; go_simp
          try simp only [Act.put, List.setIfInBounds_toArray, List.set_cons_zero, List.set_cons_succ]
          refine ext_call (i := 1) rfl (by kernel_rfl) (by rfl) (fun K' hK => ?_)
          go_simp
          (go_at_call 39; (with_reducible refine (HBY.out _ EXd.out).mono ?_); rintro e w7 ⟨A7, rfl, hx, hcv⟩; refine hK _ _ hx ?_; clear hK)
          have Ew7 := Lib.hid (Ext.trans EXd.out hx)
          have HCV := Lib.hid hcv; clear hcv
          clear hx
          try simp only [Act.put, List.setIfInBounds_toArray, List.set_cons_zero, List.set_cons_succ]
          refine ext_take (i := 2) (v := .string ST) rfl (by kernel_rfl) (by kernel_rfl) (by kernel_rfl) (fun _ _ _ h => h) (by rfl) ?_ ?_
          · intro W hW; have hW0 := Ext.trans Ew7.out hW; have z := HCV.out W hW; go_simp
          try simp only [Act.put, List.setIfInBounds_toArray, List.set_cons_zero, List.set_cons_succ]
          refine ext_take (i := 7) (v := ?_) rfl (by kernel_rfl) (by kernel_rfl) (by kernel_rfl) (fun _ _ _ h => h) (by rfl) ?_ ?_
          rotate_left
          · intro W hW; have hW0 := Ext.trans Ew7.out hW; clear hW; go_simp <;> with_reducible rfl
          try simp only [Act.put, List.setIfInBounds_toArray, List.set_cons_zero, List.set_cons_succ]
          refine ext_take (i := 8) (v := ?_) rfl (by kernel_rfl) (by kernel_rfl) (by kernel_rfl) (fun _ _ _ h => h) (by rfl) ?_ ?_
          rotate_left
          · intro W hW; have hW0 := Ext.trans Ew7.out hW; clear hW; go_simp <;> with_reducible rfl
          try simp only [Act.put, List.setIfInBounds_toArray, List.set_cons_zero, List.set_cons_succ]
          refine ext_take (i := 9) (v := ?_) rfl (by kernel_rfl) (by kernel_rfl) (by kernel_rfl) (fun _ _ _ h => h) (by rfl) ?_ ?_
          rotate_left
          · intro W hW; have hW0 := Ext.trans Ew7.out hW; clear hW; go_simp <;> with_reducible rfl
          try simp only [Act.put, List.setIfInBounds_toArray, List.set_cons_zero, List.set_cons_succ]
          refine ext_take (i := 11) (v := ?_) rfl (by kernel_rfl) (by kernel_rfl) (by kernel_rfl) (fun _ _ _ h => h) (by rfl) ?_ ?_
          rotate_left
          · intro W hW; have hW0 := Ext.trans Ew7.out hW; clear hW; go_simp <;> with_reducible rfl
          try simp only [Act.put, List.setIfInBounds_toArray, List.set_cons_zero, List.set_cons_succ]
          refine ext_take (i := 12) (v := ?_) rfl (by kernel_rfl) (by kernel_rfl) (by kernel_rfl) (fun _ _ _ h => h) (by rfl) ?_ ?_
          rotate_left
          · intro W hW; have hW0 := Ext.trans Ew7.out hW; clear hW; go_simp <;> with_reducible rfl
          try simp only [Act.put, List.setIfInBounds_toArray, List.set_cons_zero, List.set_cons_succ]
          refine ext_take (i := 13) (v := ?_) rfl (by kernel_rfl) (by kernel_rfl) (by kernel_rfl) (fun _ _ _ h => h) (by rfl) ?_ ?_
          rotate_left
          · intro W hW; have hW0 := Ext.trans Ew7.out hW; clear hW; go_simp <;> with_reducible rfl
          try simp only [Act.put, List.setIfInBounds_toArray, List.set_cons_zero, List.set_cons_succ]
          refine ext_take (i := 14) (v := .string ST) rfl (by kernel_rfl) (by kernel_rfl) (by kernel_rfl) (fun _ _ _ h => h) (by rfl) ?_ ?_
          · intro W hW; have hW0 := Ext.trans Ew7.out hW; clear hW; have z := (HX6.out.stay hW0).cell 0; go_simp
          try simp only [Act.put, List.setIfInBounds_toArray, List.set_cons_zero, List.set_cons_succ]
          refine ext_take (i := 15) (v := ?_) rfl (by kernel_rfl) (by kernel_rfl) (by kernel_rfl) (fun _ _ _ h => h) (by rfl) ?_ ?_
          rotate_left
          · intro W hW; have hW0 := Ext.trans Ew7.out hW; clear hW; go_simp <;> with_reducible rfl
          try simp only [Act.put, List.setIfInBounds_toArray, List.set_cons_zero, List.set_cons_succ]
          refine ext_call (i := 10) rfl (by kernel_rfl) (by rfl) (fun K' hK => ?_)
          go_simp
          (go_at_call 40; (with_reducible refine (HLN.out _ Ew7.out).mono ?_); rintro e w8 ⟨rfl, hx⟩; refine hK _ _ hx ?_; clear hK)
          have Ew8 := Lib.hid (Ext.trans Ew7.out hx)
          clear hx
          try simp only [Act.put, List.setIfInBounds_toArray, List.set_cons_zero, List.set_cons_succ]
          refine ext_take (i := 16) (v := ?_) rfl (by kernel_rfl) (by kernel_rfl) (by kernel_rfl) (fun _ _ _ h => h) (by rfl) ?_ ?_
          rotate_left
          · intro W hW; have hW0 := Ext.trans Ew8.out hW; clear hW; go_simp <;> with_reducible rfl
          try simp only [Act.put, List.setIfInBounds_toArray, List.set_cons_zero, List.set_cons_succ]
          refine ext_take (i := 17) (v := ?_) rfl (by kernel_rfl) (by kernel_rfl) (by kernel_rfl) (fun _ _ _ h => h) (by rfl) ?_ ?_
          rotate_left
          · intro W hW; have hW0 := Ext.trans Ew8.out hW; clear hW; go_simp <;> with_reducible rfl
          try simp only [Act.put, List.setIfInBounds_toArray, List.set_cons_zero, List.set_cons_succ]
          refine ext_take (i := 18) (v := ?_) rfl (by kernel_rfl) (by kernel_rfl) (by kernel_rfl) (fun _ _ _ h => h) (by rfl) ?_ ?_
          rotate_left
          · intro W hW; have hW0 := Ext.trans Ew8.out hW; clear hW; go_simp <;> with_reducible rfl
          try simp only [Act.put, List.setIfInBounds_toArray, List.set_cons_zero, List.set_cons_succ]
          refine ext_take (i := 19) (v := ?_) rfl (by kernel_rfl) (by kernel_rfl) (by kernel_rfl) (fun _ _ _ h => h) (by rfl) ?_ ?_
          rotate_left
          · intro W hW; have hW0 := Ext.trans Ew8.out hW; clear hW; go_simp <;> with_reducible rfl
          try simp only [Act.put, List.setIfInBounds_toArray, List.set_cons_zero, List.set_cons_succ]
          refine ext_take (i := 21) (v := ?_) rfl (by kernel_rfl) (by kernel_rfl) (by kernel_rfl) (fun _ _ _ h => h) (by rfl) ?_ ?_
          rotate_left
          · intro W hW; have hW0 := Ext.trans Ew8.out hW; clear hW; go_simp <;> with_reducible rfl
          try simp only [Act.put, List.setIfInBounds_toArray, List.set_cons_zero, List.set_cons_succ]
          refine ext_take (i := 22) (v := ?_) rfl (by kernel_rfl) (by kernel_rfl) (by kernel_rfl) (fun _ _ _ h => h) (by rfl) ?_ ?_
          rotate_left
          · intro W hW; have hW0 := Ext.trans Ew8.out hW; clear hW; go_simp <;> with_reducible rfl
          try simp only [Act.put, List.setIfInBounds_toArray, List.set_cons_zero, List.set_cons_succ]
          refine ext_take (i := 23) (v := ?_) rfl (by kernel_rfl) (by kernel_rfl) (by kernel_rfl) (fun _ _ _ h => h) (by rfl) ?_ ?_
          rotate_left
          · intro W hW; have hW0 := Ext.trans Ew8.out hW; clear hW; go_simp <;> with_reducible rfl
          try simp only [Act.put, List.setIfInBounds_toArray, List.set_cons_zero, List.set_cons_succ]
          refine ext_take (i := 24) (v := .int .i64 S) rfl (by kernel_rfl) (by kernel_rfl) (by kernel_rfl) (fun _ _ _ h => h) (by rfl) ?_ ?_
          · intro W hW; have hW0 := Ext.trans Ew8.out hW; clear hW; have z := (HX6.out.stay hW0).cell 1; go_simp
          try simp only [Act.put, List.setIfInBounds_toArray, List.set_cons_zero, List.set_cons_succ]
          refine ext_call (i := 20) rfl (by kernel_rfl) (by rfl) (fun K' hK => ?_)
          go_simp
          (go_at_call 41; (with_reducible refine (HSY.out _ Ew8.out).mono ?_); rintro e w9 ⟨rfl, hx⟩; refine hK _ _ hx ?_; clear hK)
          have Ew9 := Lib.hid (Ext.trans Ew8.out hx)
          clear hx
          try simp only [Act.put, List.setIfInBounds_toArray, List.set_cons_zero, List.set_cons_succ]
          refine ext_take (i := 25) (v := ?_) rfl (by kernel_rfl) (by kernel_rfl) (by kernel_rfl) (fun _ _ _ h => h) (by rfl) ?_ ?_
          rotate_left
          · intro W hW; have hW0 := Ext.trans Ew9.out hW; clear hW; go_simp <;> with_reducible rfl
          try simp only [Act.put, List.setIfInBounds_toArray, List.set_cons_zero, List.set_cons_succ]
          refine ext_take (i := 26) (v := ?_) rfl (by kernel_rfl) (by kernel_rfl) (by kernel_rfl) (fun _ _ _ h => h) (by rfl) ?_ ?_
          rotate_left
          · intro W hW; have hW0 := Ext.trans Ew9.out hW; clear hW; go_simp <;> with_reducible rfl
          try simp only [Act.put, List.setIfInBounds_toArray, List.set_cons_zero, List.set_cons_succ]
          refine wpAnyH_done (by kernel_rfl) ?_ _
          go_wp2_with fail
          go_roundw
          case rel => exact ⟨j + 1, P, T, S, by omega, by omega, by go_num, rfl, (by have h1 := HZ.out; have h2 := HL6.out; omega), Lib.hid (HD6.out.stay Ew9.out), Lib.hid (by rw [HST.out]; exact HX6.out.stay Ew9.out)⟩
          case measure => simp [intOf]; omega
      ·
          obtain ⟨c, rfl⟩ : ∃ c : Nat, m = c := ⟨m.toNat, by omega⟩
          have HC : Hid (Calls Try.prog 35 #[.pointer (some ⟨P, 0, none⟩), .int .i64 c] w1 fun e w' => e = .returned (.int .i64 0) ∧ Dk w w' P (l.take c) c ∧ Oth w1 w') := dk_cut HD1.out c (by omega) (by omega)
          have hz : (str l).size = l.length := str_size l
          have hE := str_take l c
          have hz2 : (str (l.take c)).size = c := by rw [str_size, List.length_take]; omega
          obtain ⟨SL, hSL⟩ : ∃ SL, str l = SL := ⟨_, rfl⟩
          obtain ⟨ST, hST⟩ : ∃ ST, str (l.take c) = ST := ⟨_, rfl⟩
          rw [hSL] at HX1 hz hE
          rw [hST] at hE hz2
          have HST0 := Lib.hid hST
          clear hSL hST
          have t1 : (0 : Int) ≤ (c : Int) := by omega
          have t2 : (c : Int) ≤ (l.length : Int) := by omega
          go_wp2_with (first
            | (go_at_call 35; rw [← HW1.out]; (with_reducible refine (HC.out).mono ?_); rintro e w2 ⟨rfl, hh1, hh2⟩; have HD2 := Lib.hid hh1; have HX2 := Lib.hid (hh2 _ _ _ HX1.out (by decide) (by decide)); have HO2 := Lib.hid (hh2 _ _ _ HO1.out (by decide) (by decide)); clear hh1 hh2; have x0 := HX2.out.cell 0; have x1 := HX2.out.cell 1; have fx0 := HX2.out.frozen 0; have fx1 := HX2.out.frozen 1; simp at x0 x1; have q0 := HO2.out.cell 0; have q1 := HO2.out.cell 1; have q2 := HO2.out.cell 2; simp at q0 q1 q2))
          go_quiet (fail)
          have hbn : Ext w2 (w2.drewN nq) := (by have := Below.refl w2.heap.size w2; exact ⟨this.os, this.tape, this.output, this.size, this.block⟩)
          have HBN := Lib.hid hbn
          clear hbn
          generalize w2.drewN nq = w3 at *
          clear x0 x1 fx0 fx1 q0 q1 q2
          have HX3 := Lib.hid (HX2.out.stay HBN.out)
          have HO3 := Lib.hid (HO2.out.stay HBN.out)
          have HD3 := Lib.hid (HD2.out.stay HBN.out)
          have x0 := HX3.out.cell 0; have x1 := HX3.out.cell 1; have fx0 := HX3.out.frozen 0; have fx1 := HX3.out.frozen 1; simp at x0 x1; have q0 := HO3.out.cell 0; have q1 := HO3.out.cell 1; have q2 := HO3.out.cell 2; simp at q0 q1 q2
          go_wp2_with fail
          have hne : ¬ X = wr.heap.size := by have := HX.out.lt; omega
          have hne2 : ¬ wr.heap.size = X := by omega
          go_region
          go_wp2_with fail
          clear x0 x1 fx0 fx1 q0 q1 q2 hz hz2 hE
          obtain ⟨w6, hw6⟩ : ∃ w6, w6 = ((w3.setCell ⟨X, 0, none⟩ (.string ST)).setCell ⟨X, 1, none⟩ (.int .i64 c)).drew := ⟨_, rfl⟩
          rw [← hw6]
          obtain ⟨T, hT⟩ : ∃ T, T = l.take c := ⟨_, rfl⟩
          obtain ⟨S, hS⟩ : ∃ S, S = c := ⟨_, rfl⟩
          have HX6 : Hid (Blk w6 X 55 #[.string (str T), .int .i64 (S : Nat)]) := by (show Blk _ _ _ _); rw [hT, hS, HST0.out, hw6]; exact ((HX3.out.set 0 (.string ST)).set 1 (.int .i64 c))
          have HD6 : Hid (Dk w w6 P T S) := by (show Dk _ _ _ _ _); rw [hT, hS, hw6]; exact dk_frm HD3.out HX3.out (by decide) HXW.out (Frm.tr (Frm.of_set (s := fun k => k = X) _ _ _ rfl) (Frm.of_set _ _ _ rfl)).drew
          have HL6 : Hid (T.length ≤ 50 * (j + 1)) := by (show _ ≤ _); rw [hT]; rw [List.length_take]; omega
          clear hw6 HST0 HC HX2 HX3 HD2 HD3 HO2 HO3 HBN
          clear hT hS
          clear HX1 HD1 HO1 HB1 HD HX HSL
          obtain ⟨HBY, HLN, HSY⟩ := asks HD6.out (by have := HL6.out; omega)
          obtain ⟨Z, hZ⟩ : ∃ Z, T.length = Z := ⟨_, rfl⟩
          obtain ⟨ST, hST⟩ : ∃ ST, str T = ST := ⟨_, rfl⟩
          rw [hZ] at HBY HLN HL6
          rw [hST] at HX6 HBY
          have HZ := Lib.hid hZ
          have HST := Lib.hid hST
          clear hZ hST
          have hsz : ST.size = Z := by rw [← HST.out, str_size, HZ.out]
          have EX := Lib.hid (Ext.refl w6)
          refine ext_begin (by kernel_rfl) ?_
          have EXd := Lib.hid (Ext.drewR EX.out)
          refine ext_take (i := 0) (v := ?_) rfl (by kernel_rfl) (by kernel_rfl) (by kernel_rfl) (fun _ _ _ h => h) (by rfl) ?_ ?_
          rotate_left
          · intro W hW; have hW0 := Ext.trans EXd.out hW; clear hW; go_simp <;> with_reducible rfl
          try simp only [Act.put, List.setIfInBounds_toArray, List.set_cons_zero, List.set_cons_succ]
          refine ext_take (i := 3) (v := ?_) rfl (by kernel_rfl) (by kernel_rfl) (by kernel_rfl) (fun _ _ _ h => h) (by rfl) ?_ ?_
          rotate_left
          · intro W hW; have hW0 := Ext.trans EXd.out hW; clear hW; go_simp <;> with_reducible rfl
          try simp only [Act.put, List.setIfInBounds_toArray, List.set_cons_zero, List.set_cons_succ]
          refine ext_take (i := 4) (v := ?_) rfl (by kernel_rfl) (by kernel_rfl) (by kernel_rfl) (fun _ _ _ h => h) (by rfl) ?_ ?_
          rotate_left
          · intro W hW; have hW0 := Ext.trans EXd.out hW; clear hW; go_simp <;> with_reducible rfl
          try simp only [Act.put, List.setIfInBounds_toArray, List.set_cons_zero, List.set_cons_succ]
          refine ext_take (i := 5) (v := ?_) rfl (by kernel_rfl) (by kernel_rfl) (by kernel_rfl) (fun _ _ _ h => h) (by rfl) ?_ ?_
          rotate_left
          · intro W hW; have hW0 := Ext.trans EXd.out hW; clear hW; go_simp <;> with_reducible rfl
          try simp only [Act.put, List.setIfInBounds_toArray, List.set_cons_zero, List.set_cons_succ]
          refine ext_take (i := 6) (v := .string ST) rfl (by kernel_rfl) (by kernel_rfl) (by kernel_rfl) (fun _ _ _ h => h) (by rfl) ?_ ?_
          · intro W hW; have hW0 := Ext.trans EXd.out hW; clear hW; have z := (HX6.out.stay hW0).cell 0; go_simp
          try simp only [Act.put, List.setIfInBounds_toArray, List.set_cons_zero, List.set_cons_succ]
          refine ext_call (i := 1) rfl (by kernel_rfl) (by rfl) (fun K' hK => ?_)
          go_simp
          (go_at_call 39; (with_reducible refine (HBY.out _ EXd.out).mono ?_); rintro e w7 ⟨A7, rfl, hx, hcv⟩; refine hK _ _ hx ?_; clear hK)
          have Ew7 := Lib.hid (Ext.trans EXd.out hx)
          have HCV := Lib.hid hcv; clear hcv
          clear hx
          try simp only [Act.put, List.setIfInBounds_toArray, List.set_cons_zero, List.set_cons_succ]
          refine ext_take (i := 2) (v := .string ST) rfl (by kernel_rfl) (by kernel_rfl) (by kernel_rfl) (fun _ _ _ h => h) (by rfl) ?_ ?_
          · intro W hW; have hW0 := Ext.trans Ew7.out hW; have z := HCV.out W hW; go_simp
          try simp only [Act.put, List.setIfInBounds_toArray, List.set_cons_zero, List.set_cons_succ]
          refine ext_take (i := 7) (v := ?_) rfl (by kernel_rfl) (by kernel_rfl) (by kernel_rfl) (fun _ _ _ h => h) (by rfl) ?_ ?_
          rotate_left
          · intro W hW; have hW0 := Ext.trans Ew7.out hW; clear hW; go_simp <;> with_reducible rfl
          try simp only [Act.put, List.setIfInBounds_toArray, List.set_cons_zero, List.set_cons_succ]
          refine ext_take (i := 8) (v := ?_) rfl (by kernel_rfl) (by kernel_rfl) (by kernel_rfl) (fun _ _ _ h => h) (by rfl) ?_ ?_
          rotate_left
          · intro W hW; have hW0 := Ext.trans Ew7.out hW; clear hW; go_simp <;> with_reducible rfl
          try simp only [Act.put, List.setIfInBounds_toArray, List.set_cons_zero, List.set_cons_succ]
          refine ext_take (i := 9) (v := ?_) rfl (by kernel_rfl) (by kernel_rfl) (by kernel_rfl) (fun _ _ _ h => h) (by rfl) ?_ ?_
          rotate_left
          · intro W hW; have hW0 := Ext.trans Ew7.out hW; clear hW; go_simp <;> with_reducible rfl
          try simp only [Act.put, List.setIfInBounds_toArray, List.set_cons_zero, List.set_cons_succ]
          refine ext_take (i := 11) (v := ?_) rfl (by kernel_rfl) (by kernel_rfl) (by kernel_rfl) (fun _ _ _ h => h) (by rfl) ?_ ?_
          rotate_left
          · intro W hW; have hW0 := Ext.trans Ew7.out hW; clear hW; go_simp <;> with_reducible rfl
          try simp only [Act.put, List.setIfInBounds_toArray, List.set_cons_zero, List.set_cons_succ]
          refine ext_take (i := 12) (v := ?_) rfl (by kernel_rfl) (by kernel_rfl) (by kernel_rfl) (fun _ _ _ h => h) (by rfl) ?_ ?_
          rotate_left
          · intro W hW; have hW0 := Ext.trans Ew7.out hW; clear hW; go_simp <;> with_reducible rfl
          try simp only [Act.put, List.setIfInBounds_toArray, List.set_cons_zero, List.set_cons_succ]
          refine ext_take (i := 13) (v := ?_) rfl (by kernel_rfl) (by kernel_rfl) (by kernel_rfl) (fun _ _ _ h => h) (by rfl) ?_ ?_
          rotate_left
          · intro W hW; have hW0 := Ext.trans Ew7.out hW; clear hW; go_simp <;> with_reducible rfl
          try simp only [Act.put, List.setIfInBounds_toArray, List.set_cons_zero, List.set_cons_succ]
          refine ext_take (i := 14) (v := .string ST) rfl (by kernel_rfl) (by kernel_rfl) (by kernel_rfl) (fun _ _ _ h => h) (by rfl) ?_ ?_
          · intro W hW; have hW0 := Ext.trans Ew7.out hW; clear hW; have z := (HX6.out.stay hW0).cell 0; go_simp
          try simp only [Act.put, List.setIfInBounds_toArray, List.set_cons_zero, List.set_cons_succ]
          refine ext_take (i := 15) (v := ?_) rfl (by kernel_rfl) (by kernel_rfl) (by kernel_rfl) (fun _ _ _ h => h) (by rfl) ?_ ?_
          rotate_left
          · intro W hW; have hW0 := Ext.trans Ew7.out hW; clear hW; go_simp <;> with_reducible rfl
          try simp only [Act.put, List.setIfInBounds_toArray, List.set_cons_zero, List.set_cons_succ]
          refine ext_call (i := 10) rfl (by kernel_rfl) (by rfl) (fun K' hK => ?_)
          go_simp
          (go_at_call 40; (with_reducible refine (HLN.out _ Ew7.out).mono ?_); rintro e w8 ⟨rfl, hx⟩; refine hK _ _ hx ?_; clear hK)
          have Ew8 := Lib.hid (Ext.trans Ew7.out hx)
          clear hx
          try simp only [Act.put, List.setIfInBounds_toArray, List.set_cons_zero, List.set_cons_succ]
          refine ext_take (i := 16) (v := ?_) rfl (by kernel_rfl) (by kernel_rfl) (by kernel_rfl) (fun _ _ _ h => h) (by rfl) ?_ ?_
          rotate_left
          · intro W hW; have hW0 := Ext.trans Ew8.out hW; clear hW; go_simp <;> with_reducible rfl
          try simp only [Act.put, List.setIfInBounds_toArray, List.set_cons_zero, List.set_cons_succ]
          refine ext_take (i := 17) (v := ?_) rfl (by kernel_rfl) (by kernel_rfl) (by kernel_rfl) (fun _ _ _ h => h) (by rfl) ?_ ?_
          rotate_left
          · intro W hW; have hW0 := Ext.trans Ew8.out hW; clear hW; go_simp <;> with_reducible rfl
          try simp only [Act.put, List.setIfInBounds_toArray, List.set_cons_zero, List.set_cons_succ]
          refine ext_take (i := 18) (v := ?_) rfl (by kernel_rfl) (by kernel_rfl) (by kernel_rfl) (fun _ _ _ h => h) (by rfl) ?_ ?_
          rotate_left
          · intro W hW; have hW0 := Ext.trans Ew8.out hW; clear hW; go_simp <;> with_reducible rfl
          try simp only [Act.put, List.setIfInBounds_toArray, List.set_cons_zero, List.set_cons_succ]
          refine ext_take (i := 19) (v := ?_) rfl (by kernel_rfl) (by kernel_rfl) (by kernel_rfl) (fun _ _ _ h => h) (by rfl) ?_ ?_
          rotate_left
          · intro W hW; have hW0 := Ext.trans Ew8.out hW; clear hW; go_simp <;> with_reducible rfl
          try simp only [Act.put, List.setIfInBounds_toArray, List.set_cons_zero, List.set_cons_succ]
          refine ext_take (i := 21) (v := ?_) rfl (by kernel_rfl) (by kernel_rfl) (by kernel_rfl) (fun _ _ _ h => h) (by rfl) ?_ ?_
          rotate_left
          · intro W hW; have hW0 := Ext.trans Ew8.out hW; clear hW; go_simp <;> with_reducible rfl
          try simp only [Act.put, List.setIfInBounds_toArray, List.set_cons_zero, List.set_cons_succ]
          refine ext_take (i := 22) (v := ?_) rfl (by kernel_rfl) (by kernel_rfl) (by kernel_rfl) (fun _ _ _ h => h) (by rfl) ?_ ?_
          rotate_left
          · intro W hW; have hW0 := Ext.trans Ew8.out hW; clear hW; go_simp <;> with_reducible rfl
          try simp only [Act.put, List.setIfInBounds_toArray, List.set_cons_zero, List.set_cons_succ]
          refine ext_take (i := 23) (v := ?_) rfl (by kernel_rfl) (by kernel_rfl) (by kernel_rfl) (fun _ _ _ h => h) (by rfl) ?_ ?_
          rotate_left
          · intro W hW; have hW0 := Ext.trans Ew8.out hW; clear hW; go_simp <;> with_reducible rfl
          try simp only [Act.put, List.setIfInBounds_toArray, List.set_cons_zero, List.set_cons_succ]
          refine ext_take (i := 24) (v := .int .i64 S) rfl (by kernel_rfl) (by kernel_rfl) (by kernel_rfl) (fun _ _ _ h => h) (by rfl) ?_ ?_
          · intro W hW; have hW0 := Ext.trans Ew8.out hW; clear hW; have z := (HX6.out.stay hW0).cell 1; go_simp
          try simp only [Act.put, List.setIfInBounds_toArray, List.set_cons_zero, List.set_cons_succ]
          refine ext_call (i := 20) rfl (by kernel_rfl) (by rfl) (fun K' hK => ?_)
          go_simp
          (go_at_call 41; (with_reducible refine (HSY.out _ Ew8.out).mono ?_); rintro e w9 ⟨rfl, hx⟩; refine hK _ _ hx ?_; clear hK)
          have Ew9 := Lib.hid (Ext.trans Ew8.out hx)
          clear hx
          try simp only [Act.put, List.setIfInBounds_toArray, List.set_cons_zero, List.set_cons_succ]
          refine ext_take (i := 25) (v := ?_) rfl (by kernel_rfl) (by kernel_rfl) (by kernel_rfl) (fun _ _ _ h => h) (by rfl) ?_ ?_
          rotate_left
          · intro W hW; have hW0 := Ext.trans Ew9.out hW; clear hW; go_simp <;> with_reducible rfl
          try simp only [Act.put, List.setIfInBounds_toArray, List.set_cons_zero, List.set_cons_succ]
          refine ext_take (i := 26) (v := ?_) rfl (by kernel_rfl) (by kernel_rfl) (by kernel_rfl) (fun _ _ _ h => h) (by rfl) ?_ ?_
          rotate_left
          · intro W hW; have hW0 := Ext.trans Ew9.out hW; clear hW; go_simp <;> with_reducible rfl
          try simp only [Act.put, List.setIfInBounds_toArray, List.set_cons_zero, List.set_cons_succ]
          refine wpAnyH_done (by kernel_rfl) ?_ _
          go_wp2_with fail
          go_roundw
          case rel => exact ⟨j + 1, P, T, S, by omega, by omega, by go_num, rfl, (by have h1 := HZ.out; have h2 := HL6.out; omega), Lib.hid (HD6.out.stay Ew9.out), Lib.hid (by rw [HST.out]; exact HX6.out.stay Ew9.out)⟩
          case measure => simp [intOf]; omega
      ·
          have HC : Hid (Calls Try.prog 35 #[.pointer (some ⟨P, 0, none⟩), .int .i64 m] w1 fun e w' => e = .returned (.int .i64 6) ∧ w1 = w') := dk_cut_no HD1.out m (by omega) (by omega)
          have hz : (str l).size = l.length := str_size l
          obtain ⟨SL, hSL⟩ : ∃ SL, str l = SL := ⟨_, rfl⟩
          rw [hSL] at HX1 hz
          have HSS := Lib.hid hSL
          clear hSL
          have t1 : ¬ 0 ≤ m := by omega
          have qq := HO1.out.cell 1
          simp at qq
          rw [HW1.out] at qq
          clear qq
          go_wp2_with (first
            | (go_at_call 35; rw [← HW1.out]; (with_reducible refine (HC.out).mono ?_); rintro e w2 ⟨rfl, rfl⟩; have x0 := HX1.out.cell 0; have x1 := HX1.out.cell 1; have fx0 := HX1.out.frozen 0; have fx1 := HX1.out.frozen 1; simp at x0 x1; have q0 := HO1.out.cell 0; have q1 := HO1.out.cell 1; have q2 := HO1.out.cell 2; simp at q0 q1 q2))
          have EN := Lib.hid (Ext.refl w1)
          clear x0 x1 fx0 fx1 q0 q1 q2
          refine ext_begin (by kernel_rfl) ?_
          have ENd := Lib.hid (Ext.drewR EN.out)
          refine ext_take (i := 0) (v := ?_) rfl (by kernel_rfl) (by kernel_rfl) (by kernel_rfl) (fun _ _ _ h => h) (by rfl) ?_ ?_
          rotate_left
          · intro W hW; have hW0 := Ext.trans ENd.out hW; clear hW; go_simp <;> with_reducible rfl
          try simp only [Act.put, List.setIfInBounds_toArray, List.set_cons_zero, List.set_cons_succ]
          refine ext_take (i := 1) (v := ?_) rfl (by kernel_rfl) (by kernel_rfl) (by kernel_rfl) (fun _ _ _ h => h) (by rfl) ?_ ?_
          rotate_left
          · intro W hW; have hW0 := Ext.trans ENd.out hW; clear hW; go_simp <;> with_reducible rfl
          try simp only [Act.put, List.setIfInBounds_toArray, List.set_cons_zero, List.set_cons_succ]
          refine ext_take (i := 2) (v := ?_) rfl (by kernel_rfl) (by kernel_rfl) (by kernel_rfl) (fun _ _ _ h => h) (by rfl) ?_ ?_
          rotate_left
          · intro W hW; have hW0 := Ext.trans ENd.out hW; clear hW; go_simp <;> with_reducible rfl
          try simp only [Act.put, List.setIfInBounds_toArray, List.set_cons_zero, List.set_cons_succ]
          refine ext_take (i := 3) (v := .int .i64 m) rfl (by kernel_rfl) (by kernel_rfl) (by kernel_rfl) (fun _ _ _ h => h) (by rfl) ?_ ?_
          · intro W hW; have hW0 := Ext.trans ENd.out hW; clear hW; have z := (HO1.out.stay hW0).cell 1; go_simp
          try simp only [Act.put, List.setIfInBounds_toArray, List.set_cons_zero, List.set_cons_succ]
          refine ext_take (i := 4) (v := .bool false) rfl (by kernel_rfl) (by kernel_rfl) (by kernel_rfl) (fun _ _ _ h => h) (by rfl) ?_ ?_
          · intro W hW; have hW0 := Ext.trans ENd.out hW; clear hW; go_simp; all_goals (first | (simp; done) | (simp; omega))
          try simp only [Act.put, List.setIfInBounds_toArray, List.set_cons_zero, List.set_cons_succ]
          refine ext_take (i := 5) (v := ?_) rfl (by kernel_rfl) (by kernel_rfl) (by kernel_rfl) (fun _ _ _ h => h) (by rfl) ?_ ?_
          rotate_left
          · intro W hW; have hW0 := Ext.trans ENd.out hW; clear hW; go_simp <;> with_reducible rfl
          try simp only [Act.put, List.setIfInBounds_toArray, List.set_cons_zero, List.set_cons_succ]
          refine ext_skip (i := 6) rfl (by kernel_rfl) (by kernel_rfl) (by kernel_rfl) (fun _ _ _ h => h) (by rfl) ?_
          try simp only [Act.put, List.setIfInBounds_toArray, List.set_cons_zero, List.set_cons_succ]
          refine ext_skip (i := 7) rfl (by kernel_rfl) (by kernel_rfl) (by kernel_rfl) (fun _ _ _ h => h) (by rfl) ?_
          try simp only [Act.put, List.setIfInBounds_toArray, List.set_cons_zero, List.set_cons_succ]
          refine ext_skip (i := 8) rfl (by kernel_rfl) (by kernel_rfl) (by kernel_rfl) (fun _ _ _ h => h) (by rfl) ?_
          try simp only [Act.put, List.setIfInBounds_toArray, List.set_cons_zero, List.set_cons_succ]
          refine ext_skip (i := 9) rfl (by kernel_rfl) (by kernel_rfl) (by kernel_rfl) (fun _ _ _ h => h) (by rfl) ?_
          try simp only [Act.put, List.setIfInBounds_toArray, List.set_cons_zero, List.set_cons_succ]
          refine ext_skip (i := 10) rfl (by kernel_rfl) (by kernel_rfl) (by kernel_rfl) (fun _ _ _ h => h) (by rfl) ?_
          try simp only [Act.put, List.setIfInBounds_toArray, List.set_cons_zero, List.set_cons_succ]
          refine ext_skip (i := 11) rfl (by kernel_rfl) (by kernel_rfl) (by kernel_rfl) (fun _ _ _ h => h) (by rfl) ?_
          try simp only [Act.put, List.setIfInBounds_toArray, List.set_cons_zero, List.set_cons_succ]
          refine ext_skip (i := 12) rfl (by kernel_rfl) (by kernel_rfl) (by kernel_rfl) (fun _ _ _ h => h) (by rfl) ?_
          try simp only [Act.put, List.setIfInBounds_toArray, List.set_cons_zero, List.set_cons_succ]
          refine ext_skip (i := 13) rfl (by kernel_rfl) (by kernel_rfl) (by kernel_rfl) (fun _ _ _ h => h) (by rfl) ?_
          try simp only [Act.put, List.setIfInBounds_toArray, List.set_cons_zero, List.set_cons_succ]
          refine ext_take (i := 14) (v := ?_) rfl (by kernel_rfl) (by kernel_rfl) (by kernel_rfl) (fun _ _ _ h => h) (by rfl) ?_ ?_
          rotate_left
          · intro W hW; have hW0 := Ext.trans ENd.out hW; clear hW; go_simp <;> with_reducible rfl
          try simp only [Act.put, List.setIfInBounds_toArray, List.set_cons_zero, List.set_cons_succ]
          refine ext_take (i := 15) (v := ?_) rfl (by kernel_rfl) (by kernel_rfl) (by kernel_rfl) (fun _ _ _ h => h) (by rfl) ?_ ?_
          rotate_left
          · intro W hW; have hW0 := Ext.trans ENd.out hW; clear hW; go_simp <;> with_reducible rfl
          try simp only [Act.put, List.setIfInBounds_toArray, List.set_cons_zero, List.set_cons_succ]
          refine ext_take (i := 16) (v := ?_) rfl (by kernel_rfl) (by kernel_rfl) (by kernel_rfl) (fun _ _ _ h => h) (by rfl) ?_ ?_
          rotate_left
          · intro W hW; have hW0 := Ext.trans ENd.out hW; clear hW; go_simp <;> with_reducible rfl
          try simp only [Act.put, List.setIfInBounds_toArray, List.set_cons_zero, List.set_cons_succ]
          refine ext_take (i := 17) (v := ?_) rfl (by kernel_rfl) (by kernel_rfl) (by kernel_rfl) (fun _ _ _ h => h) (by rfl) ?_ ?_
          rotate_left
          · intro W hW; have hW0 := Ext.trans ENd.out hW; clear hW; go_simp <;> with_reducible rfl
          try simp only [Act.put, List.setIfInBounds_toArray, List.set_cons_zero, List.set_cons_succ]
          refine ext_take (i := 18) (v := ?_) rfl (by kernel_rfl) (by kernel_rfl) (by kernel_rfl) (fun _ _ _ h => h) (by rfl) ?_ ?_
          rotate_left
          · intro W hW; have hW0 := Ext.trans ENd.out hW; clear hW; go_simp <;> with_reducible rfl
          try simp only [Act.put, List.setIfInBounds_toArray, List.set_cons_zero, List.set_cons_succ]
          refine ext_take (i := 19) (v := ?_) rfl (by kernel_rfl) (by kernel_rfl) (by kernel_rfl) (fun _ _ _ h => h) (by rfl) ?_ ?_
          rotate_left
          · intro W hW; have hW0 := Ext.trans ENd.out hW; clear hW; go_simp <;> with_reducible rfl
          try simp only [Act.put, List.setIfInBounds_toArray, List.set_cons_zero, List.set_cons_succ]
          refine ext_take (i := 20) (v := ?_) rfl (by kernel_rfl) (by kernel_rfl) (by kernel_rfl) (fun _ _ _ h => h) (by rfl) ?_ ?_
          rotate_left
          · intro W hW; have hW0 := Ext.trans ENd.out hW; clear hW; go_simp <;> with_reducible rfl
          try simp only [Act.put, List.setIfInBounds_toArray, List.set_cons_zero, List.set_cons_succ]
          refine ext_take (i := 21) (v := ?_) rfl (by kernel_rfl) (by kernel_rfl) (by kernel_rfl) (fun _ _ _ h => h) (by rfl) ?_ ?_
          rotate_left
          · intro W hW; have hW0 := Ext.trans ENd.out hW; clear hW; go_simp <;> with_reducible rfl
          try simp only [Act.put, List.setIfInBounds_toArray, List.set_cons_zero, List.set_cons_succ]
          refine ext_take (i := 22) (v := ?_) rfl (by kernel_rfl) (by kernel_rfl) (by kernel_rfl) (fun _ _ _ h => h) (by rfl) ?_ ?_
          rotate_left
          · intro W hW; have hW0 := Ext.trans ENd.out hW; clear hW; go_simp <;> with_reducible rfl
          try simp only [Act.put, List.setIfInBounds_toArray, List.set_cons_zero, List.set_cons_succ]
          refine ext_take (i := 23) (v := ?_) rfl (by kernel_rfl) (by kernel_rfl) (by kernel_rfl) (fun _ _ _ h => h) (by rfl) ?_ ?_
          rotate_left
          · intro W hW; have hW0 := Ext.trans ENd.out hW; clear hW; go_simp <;> with_reducible rfl
          try simp only [Act.put, List.setIfInBounds_toArray, List.set_cons_zero, List.set_cons_succ]
          refine wpAnyH_done (by kernel_rfl) ?_ _
          go_wp2_with fail
          obtain ⟨w6, hw6⟩ : ∃ w6, w6 = w1.drew := ⟨_, rfl⟩
          rw [← hw6]
          have HBN : Hid (Ext w1 w6) := by (show Ext _ _); rw [hw6]; exact ENd.out
          clear hw6 hz
          obtain ⟨T, hT⟩ : ∃ T, T = l := ⟨_, rfl⟩
          obtain ⟨S, hS⟩ : ∃ S, S = s := ⟨_, rfl⟩
          have HX6 : Hid (Blk w6 X 55 #[.string (str T), .int .i64 (S : Nat)]) := by (show Blk _ _ _ _); rw [hT, hS, HSS.out]; exact (HX1.out.stay HBN.out)
          have HD6 : Hid (Dk w w6 P T S) := by (show Dk _ _ _ _ _); rw [hT, hS]; exact HD1.out.stay HBN.out
          have HL6 : Hid (T.length ≤ 50 * (j + 1)) := by (show _ ≤ _); rw [hT]; omega
          clear HSS HC HBN HW1
          clear hT hS
          clear HX1 HD1 HO1 HB1 HD HX HSL
          obtain ⟨HBY, HLN, HSY⟩ := asks HD6.out (by have := HL6.out; omega)
          obtain ⟨Z, hZ⟩ : ∃ Z, T.length = Z := ⟨_, rfl⟩
          obtain ⟨ST, hST⟩ : ∃ ST, str T = ST := ⟨_, rfl⟩
          rw [hZ] at HBY HLN HL6
          rw [hST] at HX6 HBY
          have HZ := Lib.hid hZ
          have HST := Lib.hid hST
          clear hZ hST
          have hsz : ST.size = Z := by rw [← HST.out, str_size, HZ.out]
          have EX := Lib.hid (Ext.refl w6)
          refine ext_begin (by kernel_rfl) ?_
          have EXd := Lib.hid (Ext.drewR EX.out)
          refine ext_take (i := 0) (v := ?_) rfl (by kernel_rfl) (by kernel_rfl) (by kernel_rfl) (fun _ _ _ h => h) (by rfl) ?_ ?_
          rotate_left
          · intro W hW; have hW0 := Ext.trans EXd.out hW; clear hW; go_simp <;> with_reducible rfl
          try simp only [Act.put, List.setIfInBounds_toArray, List.set_cons_zero, List.set_cons_succ]
          refine ext_take (i := 3) (v := ?_) rfl (by kernel_rfl) (by kernel_rfl) (by kernel_rfl) (fun _ _ _ h => h) (by rfl) ?_ ?_
          rotate_left
          · intro W hW; have hW0 := Ext.trans EXd.out hW; clear hW; go_simp <;> with_reducible rfl
          try simp only [Act.put, List.setIfInBounds_toArray, List.set_cons_zero, List.set_cons_succ]
          refine ext_take (i := 4) (v := ?_) rfl (by kernel_rfl) (by kernel_rfl) (by kernel_rfl) (fun _ _ _ h => h) (by rfl) ?_ ?_
          rotate_left
          · intro W hW; have hW0 := Ext.trans EXd.out hW; clear hW; go_simp <;> with_reducible rfl
          try simp only [Act.put, List.setIfInBounds_toArray, List.set_cons_zero, List.set_cons_succ]
          refine ext_take (i := 5) (v := ?_) rfl (by kernel_rfl) (by kernel_rfl) (by kernel_rfl) (fun _ _ _ h => h) (by rfl) ?_ ?_
          rotate_left
          · intro W hW; have hW0 := Ext.trans EXd.out hW; clear hW; go_simp <;> with_reducible rfl
          try simp only [Act.put, List.setIfInBounds_toArray, List.set_cons_zero, List.set_cons_succ]
          refine ext_take (i := 6) (v := .string ST) rfl (by kernel_rfl) (by kernel_rfl) (by kernel_rfl) (fun _ _ _ h => h) (by rfl) ?_ ?_
          · intro W hW; have hW0 := Ext.trans EXd.out hW; clear hW; have z := (HX6.out.stay hW0).cell 0; go_simp
          try simp only [Act.put, List.setIfInBounds_toArray, List.set_cons_zero, List.set_cons_succ]
          refine ext_call (i := 1) rfl (by kernel_rfl) (by rfl) (fun K' hK => ?_)
          go_simp
          (go_at_call 39; (with_reducible refine (HBY.out _ EXd.out).mono ?_); rintro e w7 ⟨A7, rfl, hx, hcv⟩; refine hK _ _ hx ?_; clear hK)
          have Ew7 := Lib.hid (Ext.trans EXd.out hx)
          have HCV := Lib.hid hcv; clear hcv
          clear hx
          try simp only [Act.put, List.setIfInBounds_toArray, List.set_cons_zero, List.set_cons_succ]
          refine ext_take (i := 2) (v := .string ST) rfl (by kernel_rfl) (by kernel_rfl) (by kernel_rfl) (fun _ _ _ h => h) (by rfl) ?_ ?_
          · intro W hW; have hW0 := Ext.trans Ew7.out hW; have z := HCV.out W hW; go_simp
          try simp only [Act.put, List.setIfInBounds_toArray, List.set_cons_zero, List.set_cons_succ]
          refine ext_take (i := 7) (v := ?_) rfl (by kernel_rfl) (by kernel_rfl) (by kernel_rfl) (fun _ _ _ h => h) (by rfl) ?_ ?_
          rotate_left
          · intro W hW; have hW0 := Ext.trans Ew7.out hW; clear hW; go_simp <;> with_reducible rfl
          try simp only [Act.put, List.setIfInBounds_toArray, List.set_cons_zero, List.set_cons_succ]
          refine ext_take (i := 8) (v := ?_) rfl (by kernel_rfl) (by kernel_rfl) (by kernel_rfl) (fun _ _ _ h => h) (by rfl) ?_ ?_
          rotate_left
          · intro W hW; have hW0 := Ext.trans Ew7.out hW; clear hW; go_simp <;> with_reducible rfl
          try simp only [Act.put, List.setIfInBounds_toArray, List.set_cons_zero, List.set_cons_succ]
          refine ext_take (i := 9) (v := ?_) rfl (by kernel_rfl) (by kernel_rfl) (by kernel_rfl) (fun _ _ _ h => h) (by rfl) ?_ ?_
          rotate_left
          · intro W hW; have hW0 := Ext.trans Ew7.out hW; clear hW; go_simp <;> with_reducible rfl
          try simp only [Act.put, List.setIfInBounds_toArray, List.set_cons_zero, List.set_cons_succ]
          refine ext_take (i := 11) (v := ?_) rfl (by kernel_rfl) (by kernel_rfl) (by kernel_rfl) (fun _ _ _ h => h) (by rfl) ?_ ?_
          rotate_left
          · intro W hW; have hW0 := Ext.trans Ew7.out hW; clear hW; go_simp <;> with_reducible rfl
          try simp only [Act.put, List.setIfInBounds_toArray, List.set_cons_zero, List.set_cons_succ]
          refine ext_take (i := 12) (v := ?_) rfl (by kernel_rfl) (by kernel_rfl) (by kernel_rfl) (fun _ _ _ h => h) (by rfl) ?_ ?_
          rotate_left
          · intro W hW; have hW0 := Ext.trans Ew7.out hW; clear hW; go_simp <;> with_reducible rfl
          try simp only [Act.put, List.setIfInBounds_toArray, List.set_cons_zero, List.set_cons_succ]
          refine ext_take (i := 13) (v := ?_) rfl (by kernel_rfl) (by kernel_rfl) (by kernel_rfl) (fun _ _ _ h => h) (by rfl) ?_ ?_
          rotate_left
          · intro W hW; have hW0 := Ext.trans Ew7.out hW; clear hW; go_simp <;> with_reducible rfl
          try simp only [Act.put, List.setIfInBounds_toArray, List.set_cons_zero, List.set_cons_succ]
          refine ext_take (i := 14) (v := .string ST) rfl (by kernel_rfl) (by kernel_rfl) (by kernel_rfl) (fun _ _ _ h => h) (by rfl) ?_ ?_
          · intro W hW; have hW0 := Ext.trans Ew7.out hW; clear hW; have z := (HX6.out.stay hW0).cell 0; go_simp
          try simp only [Act.put, List.setIfInBounds_toArray, List.set_cons_zero, List.set_cons_succ]
          refine ext_take (i := 15) (v := ?_) rfl (by kernel_rfl) (by kernel_rfl) (by kernel_rfl) (fun _ _ _ h => h) (by rfl) ?_ ?_
          rotate_left
          · intro W hW; have hW0 := Ext.trans Ew7.out hW; clear hW; go_simp <;> with_reducible rfl
          try simp only [Act.put, List.setIfInBounds_toArray, List.set_cons_zero, List.set_cons_succ]
          refine ext_call (i := 10) rfl (by kernel_rfl) (by rfl) (fun K' hK => ?_)
          go_simp
          (go_at_call 40; (with_reducible refine (HLN.out _ Ew7.out).mono ?_); rintro e w8 ⟨rfl, hx⟩; refine hK _ _ hx ?_; clear hK)
          have Ew8 := Lib.hid (Ext.trans Ew7.out hx)
          clear hx
          try simp only [Act.put, List.setIfInBounds_toArray, List.set_cons_zero, List.set_cons_succ]
          refine ext_take (i := 16) (v := ?_) rfl (by kernel_rfl) (by kernel_rfl) (by kernel_rfl) (fun _ _ _ h => h) (by rfl) ?_ ?_
          rotate_left
          · intro W hW; have hW0 := Ext.trans Ew8.out hW; clear hW; go_simp <;> with_reducible rfl
          try simp only [Act.put, List.setIfInBounds_toArray, List.set_cons_zero, List.set_cons_succ]
          refine ext_take (i := 17) (v := ?_) rfl (by kernel_rfl) (by kernel_rfl) (by kernel_rfl) (fun _ _ _ h => h) (by rfl) ?_ ?_
          rotate_left
          · intro W hW; have hW0 := Ext.trans Ew8.out hW; clear hW; go_simp <;> with_reducible rfl
          try simp only [Act.put, List.setIfInBounds_toArray, List.set_cons_zero, List.set_cons_succ]
          refine ext_take (i := 18) (v := ?_) rfl (by kernel_rfl) (by kernel_rfl) (by kernel_rfl) (fun _ _ _ h => h) (by rfl) ?_ ?_
          rotate_left
          · intro W hW; have hW0 := Ext.trans Ew8.out hW; clear hW; go_simp <;> with_reducible rfl
          try simp only [Act.put, List.setIfInBounds_toArray, List.set_cons_zero, List.set_cons_succ]
          refine ext_take (i := 19) (v := ?_) rfl (by kernel_rfl) (by kernel_rfl) (by kernel_rfl) (fun _ _ _ h => h) (by rfl) ?_ ?_
          rotate_left
          · intro W hW; have hW0 := Ext.trans Ew8.out hW; clear hW; go_simp <;> with_reducible rfl
          try simp only [Act.put, List.setIfInBounds_toArray, List.set_cons_zero, List.set_cons_succ]
          refine ext_take (i := 21) (v := ?_) rfl (by kernel_rfl) (by kernel_rfl) (by kernel_rfl) (fun _ _ _ h => h) (by rfl) ?_ ?_
          rotate_left
          · intro W hW; have hW0 := Ext.trans Ew8.out hW; clear hW; go_simp <;> with_reducible rfl
          try simp only [Act.put, List.setIfInBounds_toArray, List.set_cons_zero, List.set_cons_succ]
          refine ext_take (i := 22) (v := ?_) rfl (by kernel_rfl) (by kernel_rfl) (by kernel_rfl) (fun _ _ _ h => h) (by rfl) ?_ ?_
          rotate_left
          · intro W hW; have hW0 := Ext.trans Ew8.out hW; clear hW; go_simp <;> with_reducible rfl
          try simp only [Act.put, List.setIfInBounds_toArray, List.set_cons_zero, List.set_cons_succ]
          refine ext_take (i := 23) (v := ?_) rfl (by kernel_rfl) (by kernel_rfl) (by kernel_rfl) (fun _ _ _ h => h) (by rfl) ?_ ?_
          rotate_left
          · intro W hW; have hW0 := Ext.trans Ew8.out hW; clear hW; go_simp <;> with_reducible rfl
          try simp only [Act.put, List.setIfInBounds_toArray, List.set_cons_zero, List.set_cons_succ]
          refine ext_take (i := 24) (v := .int .i64 S) rfl (by kernel_rfl) (by kernel_rfl) (by kernel_rfl) (fun _ _ _ h => h) (by rfl) ?_ ?_
          · intro W hW; have hW0 := Ext.trans Ew8.out hW; clear hW; have z := (HX6.out.stay hW0).cell 1; go_simp
          try simp only [Act.put, List.setIfInBounds_toArray, List.set_cons_zero, List.set_cons_succ]
          refine ext_call (i := 20) rfl (by kernel_rfl) (by rfl) (fun K' hK => ?_)
          go_simp
          (go_at_call 41; (with_reducible refine (HSY.out _ Ew8.out).mono ?_); rintro e w9 ⟨rfl, hx⟩; refine hK _ _ hx ?_; clear hK)
          have Ew9 := Lib.hid (Ext.trans Ew8.out hx)
          clear hx
          try simp only [Act.put, List.setIfInBounds_toArray, List.set_cons_zero, List.set_cons_succ]
          refine ext_take (i := 25) (v := ?_) rfl (by kernel_rfl) (by kernel_rfl) (by kernel_rfl) (fun _ _ _ h => h) (by rfl) ?_ ?_
          rotate_left
          · intro W hW; have hW0 := Ext.trans Ew9.out hW; clear hW; go_simp <;> with_reducible rfl
          try simp only [Act.put, List.setIfInBounds_toArray, List.set_cons_zero, List.set_cons_succ]
          refine ext_take (i := 26) (v := ?_) rfl (by kernel_rfl) (by kernel_rfl) (by kernel_rfl) (fun _ _ _ h => h) (by rfl) ?_ ?_
          rotate_left
          · intro W hW; have hW0 := Ext.trans Ew9.out hW; clear hW; go_simp <;> with_reducible rfl
          try simp only [Act.put, List.setIfInBounds_toArray, List.set_cons_zero, List.set_cons_succ]
          refine wpAnyH_done (by kernel_rfl) ?_ _
          go_wp2_with fail
          go_roundw
          case rel => exact ⟨j + 1, P, T, S, by omega, by omega, by go_num, rfl, (by have h1 := HZ.out; have h2 := HL6.out; omega), Lib.hid (HD6.out.stay Ew9.out), Lib.hid (by rw [HST.out]; exact HX6.out.stay Ew9.out)⟩
          case measure => simp [intOf]; omega
      ·
          have HC : Hid (Calls Try.prog 35 #[.pointer (some ⟨P, 0, none⟩), .int .i64 m] w1 fun e w' => e = .returned (.int .i64 6) ∧ w1 = w') := dk_cut_no HD1.out m (by omega) (by omega)
          have hz : (str l).size = l.length := str_size l
          obtain ⟨SL, hSL⟩ : ∃ SL, str l = SL := ⟨_, rfl⟩
          rw [hSL] at HX1 hz
          have HSS := Lib.hid hSL
          clear hSL
          have t1 : 0 ≤ m := by omega
          have t2 : ¬ m ≤ (l.length : Int) := by omega
          have qq := HO1.out.cell 1
          simp at qq
          rw [HW1.out] at qq
          clear qq
          go_wp2_with (first
            | (go_at_call 35; rw [← HW1.out]; (with_reducible refine (HC.out).mono ?_); rintro e w2 ⟨rfl, rfl⟩; have x0 := HX1.out.cell 0; have x1 := HX1.out.cell 1; have fx0 := HX1.out.frozen 0; have fx1 := HX1.out.frozen 1; simp at x0 x1; have q0 := HO1.out.cell 0; have q1 := HO1.out.cell 1; have q2 := HO1.out.cell 2; simp at q0 q1 q2))
          have EN := Lib.hid (Ext.refl w1)
          clear x0 x1 fx0 fx1 q0 q1 q2
          refine ext_begin (by kernel_rfl) ?_
          have ENd := Lib.hid (Ext.drewR EN.out)
          refine ext_take (i := 0) (v := ?_) rfl (by kernel_rfl) (by kernel_rfl) (by kernel_rfl) (fun _ _ _ h => h) (by rfl) ?_ ?_
          rotate_left
          · intro W hW; have hW0 := Ext.trans ENd.out hW; clear hW; go_simp <;> with_reducible rfl
          try simp only [Act.put, List.setIfInBounds_toArray, List.set_cons_zero, List.set_cons_succ]
          refine ext_take (i := 1) (v := ?_) rfl (by kernel_rfl) (by kernel_rfl) (by kernel_rfl) (fun _ _ _ h => h) (by rfl) ?_ ?_
          rotate_left
          · intro W hW; have hW0 := Ext.trans ENd.out hW; clear hW; go_simp <;> with_reducible rfl
          try simp only [Act.put, List.setIfInBounds_toArray, List.set_cons_zero, List.set_cons_succ]
          refine ext_take (i := 2) (v := ?_) rfl (by kernel_rfl) (by kernel_rfl) (by kernel_rfl) (fun _ _ _ h => h) (by rfl) ?_ ?_
          rotate_left
          · intro W hW; have hW0 := Ext.trans ENd.out hW; clear hW; go_simp <;> with_reducible rfl
          try simp only [Act.put, List.setIfInBounds_toArray, List.set_cons_zero, List.set_cons_succ]
          refine ext_take (i := 3) (v := .int .i64 m) rfl (by kernel_rfl) (by kernel_rfl) (by kernel_rfl) (fun _ _ _ h => h) (by rfl) ?_ ?_
          · intro W hW; have hW0 := Ext.trans ENd.out hW; clear hW; have z := (HO1.out.stay hW0).cell 1; go_simp
          try simp only [Act.put, List.setIfInBounds_toArray, List.set_cons_zero, List.set_cons_succ]
          refine ext_take (i := 4) (v := .bool true) rfl (by kernel_rfl) (by kernel_rfl) (by kernel_rfl) (fun _ _ _ h => h) (by rfl) ?_ ?_
          · intro W hW; have hW0 := Ext.trans ENd.out hW; clear hW; go_simp; all_goals (first | (simp; done) | (simp; omega))
          try simp only [Act.put, List.setIfInBounds_toArray, List.set_cons_zero, List.set_cons_succ]
          refine ext_take (i := 5) (v := ?_) rfl (by kernel_rfl) (by kernel_rfl) (by kernel_rfl) (fun _ _ _ h => h) (by rfl) ?_ ?_
          rotate_left
          · intro W hW; have hW0 := Ext.trans ENd.out hW; clear hW; go_simp <;> with_reducible rfl
          try simp only [Act.put, List.setIfInBounds_toArray, List.set_cons_zero, List.set_cons_succ]
          refine ext_take (i := 6) (v := ?_) rfl (by kernel_rfl) (by kernel_rfl) (by kernel_rfl) (fun _ _ _ h => h) (by rfl) ?_ ?_
          rotate_left
          · intro W hW; have hW0 := Ext.trans ENd.out hW; clear hW; go_simp <;> with_reducible rfl
          try simp only [Act.put, List.setIfInBounds_toArray, List.set_cons_zero, List.set_cons_succ]
          refine ext_take (i := 7) (v := .int .i64 m) rfl (by kernel_rfl) (by kernel_rfl) (by kernel_rfl) (fun _ _ _ h => h) (by rfl) ?_ ?_
          · intro W hW; have hW0 := Ext.trans ENd.out hW; clear hW; have z := (HO1.out.stay hW0).cell 1; go_simp
          try simp only [Act.put, List.setIfInBounds_toArray, List.set_cons_zero, List.set_cons_succ]
          refine ext_take (i := 8) (v := ?_) rfl (by kernel_rfl) (by kernel_rfl) (by kernel_rfl) (fun _ _ _ h => h) (by rfl) ?_ ?_
          rotate_left
          · intro W hW; have hW0 := Ext.trans ENd.out hW; clear hW; go_simp <;> with_reducible rfl
          try simp only [Act.put, List.setIfInBounds_toArray, List.set_cons_zero, List.set_cons_succ]
          refine ext_take (i := 9) (v := ?_) rfl (by kernel_rfl) (by kernel_rfl) (by kernel_rfl) (fun _ _ _ h => h) (by rfl) ?_ ?_
          rotate_left
          · intro W hW; have hW0 := Ext.trans ENd.out hW; clear hW; go_simp <;> with_reducible rfl
          try simp only [Act.put, List.setIfInBounds_toArray, List.set_cons_zero, List.set_cons_succ]
          refine ext_take (i := 10) (v := ?_) rfl (by kernel_rfl) (by kernel_rfl) (by kernel_rfl) (fun _ _ _ h => h) (by rfl) ?_ ?_
          rotate_left
          · intro W hW; have hW0 := Ext.trans ENd.out hW; clear hW; go_simp <;> with_reducible rfl
          try simp only [Act.put, List.setIfInBounds_toArray, List.set_cons_zero, List.set_cons_succ]
          refine ext_take (i := 11) (v := .string SL) rfl (by kernel_rfl) (by kernel_rfl) (by kernel_rfl) (fun _ _ _ h => h) (by rfl) ?_ ?_
          · intro W hW; have hW0 := Ext.trans ENd.out hW; clear hW; have z := (HX1.out.stay hW0).cell 0; go_simp
          try simp only [Act.put, List.setIfInBounds_toArray, List.set_cons_zero, List.set_cons_succ]
          refine ext_take (i := 12) (v := ?_) rfl (by kernel_rfl) (by kernel_rfl) (by kernel_rfl) (fun _ _ _ h => h) (by rfl) ?_ ?_
          rotate_left
          · intro W hW; have hW0 := Ext.trans ENd.out hW; clear hW; go_simp <;> with_reducible rfl
          try simp only [Act.put, List.setIfInBounds_toArray, List.set_cons_zero, List.set_cons_succ]
          refine ext_take (i := 13) (v := .bool false) rfl (by kernel_rfl) (by kernel_rfl) (by kernel_rfl) (fun _ _ _ h => h) (by rfl) ?_ ?_
          · intro W hW; have hW0 := Ext.trans ENd.out hW; clear hW; go_simp; all_goals (first | (simp; done) | (simp; omega))
          try simp only [Act.put, List.setIfInBounds_toArray, List.set_cons_zero, List.set_cons_succ]
          refine ext_take (i := 14) (v := ?_) rfl (by kernel_rfl) (by kernel_rfl) (by kernel_rfl) (fun _ _ _ h => h) (by rfl) ?_ ?_
          rotate_left
          · intro W hW; have hW0 := Ext.trans ENd.out hW; clear hW; go_simp <;> with_reducible rfl
          try simp only [Act.put, List.setIfInBounds_toArray, List.set_cons_zero, List.set_cons_succ]
          refine ext_take (i := 15) (v := ?_) rfl (by kernel_rfl) (by kernel_rfl) (by kernel_rfl) (fun _ _ _ h => h) (by rfl) ?_ ?_
          rotate_left
          · intro W hW; have hW0 := Ext.trans ENd.out hW; clear hW; go_simp <;> with_reducible rfl
          try simp only [Act.put, List.setIfInBounds_toArray, List.set_cons_zero, List.set_cons_succ]
          refine ext_take (i := 16) (v := ?_) rfl (by kernel_rfl) (by kernel_rfl) (by kernel_rfl) (fun _ _ _ h => h) (by rfl) ?_ ?_
          rotate_left
          · intro W hW; have hW0 := Ext.trans ENd.out hW; clear hW; go_simp <;> with_reducible rfl
          try simp only [Act.put, List.setIfInBounds_toArray, List.set_cons_zero, List.set_cons_succ]
          refine ext_take (i := 17) (v := ?_) rfl (by kernel_rfl) (by kernel_rfl) (by kernel_rfl) (fun _ _ _ h => h) (by rfl) ?_ ?_
          rotate_left
          · intro W hW; have hW0 := Ext.trans ENd.out hW; clear hW; go_simp <;> with_reducible rfl
          try simp only [Act.put, List.setIfInBounds_toArray, List.set_cons_zero, List.set_cons_succ]
          refine ext_take (i := 18) (v := ?_) rfl (by kernel_rfl) (by kernel_rfl) (by kernel_rfl) (fun _ _ _ h => h) (by rfl) ?_ ?_
          rotate_left
          · intro W hW; have hW0 := Ext.trans ENd.out hW; clear hW; go_simp <;> with_reducible rfl
          try simp only [Act.put, List.setIfInBounds_toArray, List.set_cons_zero, List.set_cons_succ]
          refine ext_take (i := 19) (v := ?_) rfl (by kernel_rfl) (by kernel_rfl) (by kernel_rfl) (fun _ _ _ h => h) (by rfl) ?_ ?_
          rotate_left
          · intro W hW; have hW0 := Ext.trans ENd.out hW; clear hW; go_simp <;> with_reducible rfl
          try simp only [Act.put, List.setIfInBounds_toArray, List.set_cons_zero, List.set_cons_succ]
          refine ext_take (i := 20) (v := ?_) rfl (by kernel_rfl) (by kernel_rfl) (by kernel_rfl) (fun _ _ _ h => h) (by rfl) ?_ ?_
          rotate_left
          · intro W hW; have hW0 := Ext.trans ENd.out hW; clear hW; go_simp <;> with_reducible rfl
          try simp only [Act.put, List.setIfInBounds_toArray, List.set_cons_zero, List.set_cons_succ]
          refine ext_take (i := 21) (v := ?_) rfl (by kernel_rfl) (by kernel_rfl) (by kernel_rfl) (fun _ _ _ h => h) (by rfl) ?_ ?_
          rotate_left
          · intro W hW; have hW0 := Ext.trans ENd.out hW; clear hW; go_simp <;> with_reducible rfl
          try simp only [Act.put, List.setIfInBounds_toArray, List.set_cons_zero, List.set_cons_succ]
          refine ext_take (i := 22) (v := ?_) rfl (by kernel_rfl) (by kernel_rfl) (by kernel_rfl) (fun _ _ _ h => h) (by rfl) ?_ ?_
          rotate_left
          · intro W hW; have hW0 := Ext.trans ENd.out hW; clear hW; go_simp <;> with_reducible rfl
          try simp only [Act.put, List.setIfInBounds_toArray, List.set_cons_zero, List.set_cons_succ]
          refine ext_take (i := 23) (v := ?_) rfl (by kernel_rfl) (by kernel_rfl) (by kernel_rfl) (fun _ _ _ h => h) (by rfl) ?_ ?_
          rotate_left
          · intro W hW; have hW0 := Ext.trans ENd.out hW; clear hW; go_simp <;> with_reducible rfl
          try simp only [Act.put, List.setIfInBounds_toArray, List.set_cons_zero, List.set_cons_succ]
          refine wpAnyH_done (by kernel_rfl) ?_ _
          go_wp2_with fail
          obtain ⟨w6, hw6⟩ : ∃ w6, w6 = w1.drew := ⟨_, rfl⟩
          rw [← hw6]
          have HBN : Hid (Ext w1 w6) := by (show Ext _ _); rw [hw6]; exact ENd.out
          clear hw6 hz
          obtain ⟨T, hT⟩ : ∃ T, T = l := ⟨_, rfl⟩
          obtain ⟨S, hS⟩ : ∃ S, S = s := ⟨_, rfl⟩
          have HX6 : Hid (Blk w6 X 55 #[.string (str T), .int .i64 (S : Nat)]) := by (show Blk _ _ _ _); rw [hT, hS, HSS.out]; exact (HX1.out.stay HBN.out)
          have HD6 : Hid (Dk w w6 P T S) := by (show Dk _ _ _ _ _); rw [hT, hS]; exact HD1.out.stay HBN.out
          have HL6 : Hid (T.length ≤ 50 * (j + 1)) := by (show _ ≤ _); rw [hT]; omega
          clear HSS HC HBN HW1
          clear hT hS
          clear HX1 HD1 HO1 HB1 HD HX HSL
          obtain ⟨HBY, HLN, HSY⟩ := asks HD6.out (by have := HL6.out; omega)
          obtain ⟨Z, hZ⟩ : ∃ Z, T.length = Z := ⟨_, rfl⟩
          obtain ⟨ST, hST⟩ : ∃ ST, str T = ST := ⟨_, rfl⟩
          rw [hZ] at HBY HLN HL6
          rw [hST] at HX6 HBY
          have HZ := Lib.hid hZ
          have HST := Lib.hid hST
          clear hZ hST
          have hsz : ST.size = Z := by rw [← HST.out, str_size, HZ.out]
          have EX := Lib.hid (Ext.refl w6)
          refine ext_begin (by kernel_rfl) ?_
          have EXd := Lib.hid (Ext.drewR EX.out)
          refine ext_take (i := 0) (v := ?_) rfl (by kernel_rfl) (by kernel_rfl) (by kernel_rfl) (fun _ _ _ h => h) (by rfl) ?_ ?_
          rotate_left
          · intro W hW; have hW0 := Ext.trans EXd.out hW; clear hW; go_simp <;> with_reducible rfl
          try simp only [Act.put, List.setIfInBounds_toArray, List.set_cons_zero, List.set_cons_succ]
          refine ext_take (i := 3) (v := ?_) rfl (by kernel_rfl) (by kernel_rfl) (by kernel_rfl) (fun _ _ _ h => h) (by rfl) ?_ ?_
          rotate_left
          · intro W hW; have hW0 := Ext.trans EXd.out hW; clear hW; go_simp <;> with_reducible rfl
          try simp only [Act.put, List.setIfInBounds_toArray, List.set_cons_zero, List.set_cons_succ]
          refine ext_take (i := 4) (v := ?_) rfl (by kernel_rfl) (by kernel_rfl) (by kernel_rfl) (fun _ _ _ h => h) (by rfl) ?_ ?_
          rotate_left
          · intro W hW; have hW0 := Ext.trans EXd.out hW; clear hW; go_simp <;> with_reducible rfl
          try simp only [Act.put, List.setIfInBounds_toArray, List.set_cons_zero, List.set_cons_succ]
          refine ext_take (i := 5) (v := ?_) rfl (by kernel_rfl) (by kernel_rfl) (by kernel_rfl) (fun _ _ _ h => h) (by rfl) ?_ ?_
          rotate_left
          · intro W hW; have hW0 := Ext.trans EXd.out hW; clear hW; go_simp <;> with_reducible rfl
          try simp only [Act.put, List.setIfInBounds_toArray, List.set_cons_zero, List.set_cons_succ]
          refine ext_take (i := 6) (v := .string ST) rfl (by kernel_rfl) (by kernel_rfl) (by kernel_rfl) (fun _ _ _ h => h) (by rfl) ?_ ?_
          · intro W hW; have hW0 := Ext.trans EXd.out hW; clear hW; have z := (HX6.out.stay hW0).cell 0; go_simp
          try simp only [Act.put, List.setIfInBounds_toArray, List.set_cons_zero, List.set_cons_succ]
          refine ext_call (i := 1) rfl (by kernel_rfl) (by rfl) (fun K' hK => ?_)
          go_simp
          (go_at_call 39; (with_reducible refine (HBY.out _ EXd.out).mono ?_); rintro e w7 ⟨A7, rfl, hx, hcv⟩; refine hK _ _ hx ?_; clear hK)
          have Ew7 := Lib.hid (Ext.trans EXd.out hx)
          have HCV := Lib.hid hcv; clear hcv
          clear hx
          try simp only [Act.put, List.setIfInBounds_toArray, List.set_cons_zero, List.set_cons_succ]
          refine ext_take (i := 2) (v := .string ST) rfl (by kernel_rfl) (by kernel_rfl) (by kernel_rfl) (fun _ _ _ h => h) (by rfl) ?_ ?_
          · intro W hW; have hW0 := Ext.trans Ew7.out hW; have z := HCV.out W hW; go_simp
          try simp only [Act.put, List.setIfInBounds_toArray, List.set_cons_zero, List.set_cons_succ]
          refine ext_take (i := 7) (v := ?_) rfl (by kernel_rfl) (by kernel_rfl) (by kernel_rfl) (fun _ _ _ h => h) (by rfl) ?_ ?_
          rotate_left
          · intro W hW; have hW0 := Ext.trans Ew7.out hW; clear hW; go_simp <;> with_reducible rfl
          try simp only [Act.put, List.setIfInBounds_toArray, List.set_cons_zero, List.set_cons_succ]
          refine ext_take (i := 8) (v := ?_) rfl (by kernel_rfl) (by kernel_rfl) (by kernel_rfl) (fun _ _ _ h => h) (by rfl) ?_ ?_
          rotate_left
          · intro W hW; have hW0 := Ext.trans Ew7.out hW; clear hW; go_simp <;> with_reducible rfl
          try simp only [Act.put, List.setIfInBounds_toArray, List.set_cons_zero, List.set_cons_succ]
          refine ext_take (i := 9) (v := ?_) rfl (by kernel_rfl) (by kernel_rfl) (by kernel_rfl) (fun _ _ _ h => h) (by rfl) ?_ ?_
          rotate_left
          · intro W hW; have hW0 := Ext.trans Ew7.out hW; clear hW; go_simp <;> with_reducible rfl
          try simp only [Act.put, List.setIfInBounds_toArray, List.set_cons_zero, List.set_cons_succ]
          refine ext_take (i := 11) (v := ?_) rfl (by kernel_rfl) (by kernel_rfl) (by kernel_rfl) (fun _ _ _ h => h) (by rfl) ?_ ?_
          rotate_left
          · intro W hW; have hW0 := Ext.trans Ew7.out hW; clear hW; go_simp <;> with_reducible rfl
          try simp only [Act.put, List.setIfInBounds_toArray, List.set_cons_zero, List.set_cons_succ]
          refine ext_take (i := 12) (v := ?_) rfl (by kernel_rfl) (by kernel_rfl) (by kernel_rfl) (fun _ _ _ h => h) (by rfl) ?_ ?_
          rotate_left
          · intro W hW; have hW0 := Ext.trans Ew7.out hW; clear hW; go_simp <;> with_reducible rfl
          try simp only [Act.put, List.setIfInBounds_toArray, List.set_cons_zero, List.set_cons_succ]
          refine ext_take (i := 13) (v := ?_) rfl (by kernel_rfl) (by kernel_rfl) (by kernel_rfl) (fun _ _ _ h => h) (by rfl) ?_ ?_
          rotate_left
          · intro W hW; have hW0 := Ext.trans Ew7.out hW; clear hW; go_simp <;> with_reducible rfl
          try simp only [Act.put, List.setIfInBounds_toArray, List.set_cons_zero, List.set_cons_succ]
          refine ext_take (i := 14) (v := .string ST) rfl (by kernel_rfl) (by kernel_rfl) (by kernel_rfl) (fun _ _ _ h => h) (by rfl) ?_ ?_
          · intro W hW; have hW0 := Ext.trans Ew7.out hW; clear hW; have z := (HX6.out.stay hW0).cell 0; go_simp
          try simp only [Act.put, List.setIfInBounds_toArray, List.set_cons_zero, List.set_cons_succ]
          refine ext_take (i := 15) (v := ?_) rfl (by kernel_rfl) (by kernel_rfl) (by kernel_rfl) (fun _ _ _ h => h) (by rfl) ?_ ?_
          rotate_left
          · intro W hW; have hW0 := Ext.trans Ew7.out hW; clear hW; go_simp <;> with_reducible rfl
          try simp only [Act.put, List.setIfInBounds_toArray, List.set_cons_zero, List.set_cons_succ]
          refine ext_call (i := 10) rfl (by kernel_rfl) (by rfl) (fun K' hK => ?_)
          go_simp
          (go_at_call 40; (with_reducible refine (HLN.out _ Ew7.out).mono ?_); rintro e w8 ⟨rfl, hx⟩; refine hK _ _ hx ?_; clear hK)
          have Ew8 := Lib.hid (Ext.trans Ew7.out hx)
          clear hx
          try simp only [Act.put, List.setIfInBounds_toArray, List.set_cons_zero, List.set_cons_succ]
          refine ext_take (i := 16) (v := ?_) rfl (by kernel_rfl) (by kernel_rfl) (by kernel_rfl) (fun _ _ _ h => h) (by rfl) ?_ ?_
          rotate_left
          · intro W hW; have hW0 := Ext.trans Ew8.out hW; clear hW; go_simp <;> with_reducible rfl
          try simp only [Act.put, List.setIfInBounds_toArray, List.set_cons_zero, List.set_cons_succ]
          refine ext_take (i := 17) (v := ?_) rfl (by kernel_rfl) (by kernel_rfl) (by kernel_rfl) (fun _ _ _ h => h) (by rfl) ?_ ?_
          rotate_left
          · intro W hW; have hW0 := Ext.trans Ew8.out hW; clear hW; go_simp <;> with_reducible rfl
          try simp only [Act.put, List.setIfInBounds_toArray, List.set_cons_zero, List.set_cons_succ]
          refine ext_take (i := 18) (v := ?_) rfl (by kernel_rfl) (by kernel_rfl) (by kernel_rfl) (fun _ _ _ h => h) (by rfl) ?_ ?_
          rotate_left
          · intro W hW; have hW0 := Ext.trans Ew8.out hW; clear hW; go_simp <;> with_reducible rfl
          try simp only [Act.put, List.setIfInBounds_toArray, List.set_cons_zero, List.set_cons_succ]
          refine ext_take (i := 19) (v := ?_) rfl (by kernel_rfl) (by kernel_rfl) (by kernel_rfl) (fun _ _ _ h => h) (by rfl) ?_ ?_
          rotate_left
          · intro W hW; have hW0 := Ext.trans Ew8.out hW; clear hW; go_simp <;> with_reducible rfl
          try simp only [Act.put, List.setIfInBounds_toArray, List.set_cons_zero, List.set_cons_succ]
          refine ext_take (i := 21) (v := ?_) rfl (by kernel_rfl) (by kernel_rfl) (by kernel_rfl) (fun _ _ _ h => h) (by rfl) ?_ ?_
          rotate_left
          · intro W hW; have hW0 := Ext.trans Ew8.out hW; clear hW; go_simp <;> with_reducible rfl
          try simp only [Act.put, List.setIfInBounds_toArray, List.set_cons_zero, List.set_cons_succ]
          refine ext_take (i := 22) (v := ?_) rfl (by kernel_rfl) (by kernel_rfl) (by kernel_rfl) (fun _ _ _ h => h) (by rfl) ?_ ?_
          rotate_left
          · intro W hW; have hW0 := Ext.trans Ew8.out hW; clear hW; go_simp <;> with_reducible rfl
          try simp only [Act.put, List.setIfInBounds_toArray, List.set_cons_zero, List.set_cons_succ]
          refine ext_take (i := 23) (v := ?_) rfl (by kernel_rfl) (by kernel_rfl) (by kernel_rfl) (fun _ _ _ h => h) (by rfl) ?_ ?_
          rotate_left
          · intro W hW; have hW0 := Ext.trans Ew8.out hW; clear hW; go_simp <;> with_reducible rfl
          try simp only [Act.put, List.setIfInBounds_toArray, List.set_cons_zero, List.set_cons_succ]
          refine ext_take (i := 24) (v := .int .i64 S) rfl (by kernel_rfl) (by kernel_rfl) (by kernel_rfl) (fun _ _ _ h => h) (by rfl) ?_ ?_
          · intro W hW; have hW0 := Ext.trans Ew8.out hW; clear hW; have z := (HX6.out.stay hW0).cell 1; go_simp
          try simp only [Act.put, List.setIfInBounds_toArray, List.set_cons_zero, List.set_cons_succ]
          refine ext_call (i := 20) rfl (by kernel_rfl) (by rfl) (fun K' hK => ?_)
          go_simp
          (go_at_call 41; (with_reducible refine (HSY.out _ Ew8.out).mono ?_); rintro e w9 ⟨rfl, hx⟩; refine hK _ _ hx ?_; clear hK)
          have Ew9 := Lib.hid (Ext.trans Ew8.out hx)
          clear hx
          try simp only [Act.put, List.setIfInBounds_toArray, List.set_cons_zero, List.set_cons_succ]
          refine ext_take (i := 25) (v := ?_) rfl (by kernel_rfl) (by kernel_rfl) (by kernel_rfl) (fun _ _ _ h => h) (by rfl) ?_ ?_
          rotate_left
          · intro W hW; have hW0 := Ext.trans Ew9.out hW; clear hW; go_simp <;> with_reducible rfl
          try simp only [Act.put, List.setIfInBounds_toArray, List.set_cons_zero, List.set_cons_succ]
          refine ext_take (i := 26) (v := ?_) rfl (by kernel_rfl) (by kernel_rfl) (by kernel_rfl) (fun _ _ _ h => h) (by rfl) ?_ ?_
          rotate_left
          · intro W hW; have hW0 := Ext.trans Ew9.out hW; clear hW; go_simp <;> with_reducible rfl
          try simp only [Act.put, List.setIfInBounds_toArray, List.set_cons_zero, List.set_cons_succ]
          refine wpAnyH_done (by kernel_rfl) ?_ _
          go_wp2_with fail
          go_roundw
          case rel => exact ⟨j + 1, P, T, S, by omega, by omega, by go_num, rfl, (by have h1 := HZ.out; have h2 := HL6.out; omega), Lib.hid (HD6.out.stay Ew9.out), Lib.hid (by rw [HST.out]; exact HX6.out.stay Ew9.out)⟩
          case measure => simp [intOf]; omega
      ·
          obtain ⟨kk, hkk⟩ : ∃ kk, keepN l.length s m = kk := ⟨_, rfl⟩
          have HC : Hid (Calls Try.prog 36 #[.pointer (some ⟨P, 0, none⟩), .int .i64 m] w1 fun e w' => e = .returned (.tuple #[]) ∧ Dk w w' P (l.take kk) kk ∧ Oth w1 w') := by (show Calls _ _ _ _ _); rw [← hkk]; exact dk_crash HD1.out m (by omega)
          have HR : Hid (∀ V, Blk V X 55 #[.string (str l), .int .i64 s] → Calls Try.prog 37 #[.pointer (some ⟨X, 0, none⟩), .int .i64 m] V fun e w' => e = .returned (.tuple #[]) ∧ Blk w' X 55 #[.string (str (l.take kk)), .int .i64 kk] ∧ Frm (fun k => k = X) V w') := fun V hB => by rw [← hkk]; exact refCrash_any X s l m V hB hs0 (by omega)
          clear hkk
          go_wp2_with (first
            | (go_at_call 36; rw [← HW1.out]; (with_reducible refine (HC.out).mono ?_); rintro e w2 ⟨rfl, hh1, hh2⟩; have HD2 := Lib.hid hh1; have HX2 := Lib.hid (hh2 _ _ _ HX1.out (by decide) (by decide)); have HO2 := Lib.hid (hh2 _ _ _ HO1.out (by decide) (by decide)); clear hh1 hh2; have q0 := HO2.out.cell 0; have q1 := HO2.out.cell 1; have q2 := HO2.out.cell 2; simp at q0 q1 q2)
            | (go_at_call 37; (with_reducible refine (HR.out _ HX2.out).mono ?_); rintro e w6 ⟨rfl, hh1, hh2⟩; have HX5 := Lib.hid hh1; have HD5 := Lib.hid (dk_frm HD2.out HX2.out (by decide) HXW.out hh2); clear hh1 hh2))
          clear q0 q1 q2
          obtain ⟨T, hT⟩ : ∃ T, T = l.take kk := ⟨_, rfl⟩
          obtain ⟨S, hS⟩ : ∃ S, S = kk := ⟨_, rfl⟩
          have HX6 : Hid (Blk w6 X 55 #[.string (str T), .int .i64 (S : Nat)]) := by (show Blk _ _ _ _); rw [hT, hS]; exact HX5.out
          have HD6 : Hid (Dk w w6 P T S) := by (show Dk _ _ _ _ _); rw [hT, hS]; exact HD5.out
          have HL6 : Hid (T.length ≤ 50 * (j + 1)) := by (show _ ≤ _); rw [hT]; rw [List.length_take]; omega
          clear HC HR HX5 HX2 HD2 HD5 HO2
          clear hT hS
          clear HX1 HD1 HO1 HB1 HD HX HSL
          obtain ⟨HBY, HLN, HSY⟩ := asks HD6.out (by have := HL6.out; omega)
          obtain ⟨Z, hZ⟩ : ∃ Z, T.length = Z := ⟨_, rfl⟩
          obtain ⟨ST, hST⟩ : ∃ ST, str T = ST := ⟨_, rfl⟩
          rw [hZ] at HBY HLN HL6
          rw [hST] at HX6 HBY
          have HZ := Lib.hid hZ
          have HST := Lib.hid hST
          clear hZ hST
          have hsz : ST.size = Z := by rw [← HST.out, str_size, HZ.out]
          have EX := Lib.hid (Ext.refl w6)
          refine ext_begin (by kernel_rfl) ?_
          have EXd := Lib.hid (Ext.drewR EX.out)
          refine ext_take (i := 0) (v := ?_) rfl (by kernel_rfl) (by kernel_rfl) (by kernel_rfl) (fun _ _ _ h => h) (by rfl) ?_ ?_
          rotate_left
          · intro W hW; have hW0 := Ext.trans EXd.out hW; clear hW; go_simp <;> with_reducible rfl
          try simp only [Act.put, List.setIfInBounds_toArray, List.set_cons_zero, List.set_cons_succ]
          refine ext_take (i := 3) (v := ?_) rfl (by kernel_rfl) (by kernel_rfl) (by kernel_rfl) (fun _ _ _ h => h) (by rfl) ?_ ?_
          rotate_left
          · intro W hW; have hW0 := Ext.trans EXd.out hW; clear hW; go_simp <;> with_reducible rfl
          try simp only [Act.put, List.setIfInBounds_toArray, List.set_cons_zero, List.set_cons_succ]
          refine ext_take (i := 4) (v := ?_) rfl (by kernel_rfl) (by kernel_rfl) (by kernel_rfl) (fun _ _ _ h => h) (by rfl) ?_ ?_
          rotate_left
          · intro W hW; have hW0 := Ext.trans EXd.out hW; clear hW; go_simp <;> with_reducible rfl
          try simp only [Act.put, List.setIfInBounds_toArray, List.set_cons_zero, List.set_cons_succ]
          refine ext_take (i := 5) (v := ?_) rfl (by kernel_rfl) (by kernel_rfl) (by kernel_rfl) (fun _ _ _ h => h) (by rfl) ?_ ?_
          rotate_left
          · intro W hW; have hW0 := Ext.trans EXd.out hW; clear hW; go_simp <;> with_reducible rfl
          try simp only [Act.put, List.setIfInBounds_toArray, List.set_cons_zero, List.set_cons_succ]
          refine ext_take (i := 6) (v := .string ST) rfl (by kernel_rfl) (by kernel_rfl) (by kernel_rfl) (fun _ _ _ h => h) (by rfl) ?_ ?_
          · intro W hW; have hW0 := Ext.trans EXd.out hW; clear hW; have z := (HX6.out.stay hW0).cell 0; go_simp
          try simp only [Act.put, List.setIfInBounds_toArray, List.set_cons_zero, List.set_cons_succ]
          refine ext_call (i := 1) rfl (by kernel_rfl) (by rfl) (fun K' hK => ?_)
          go_simp
          (go_at_call 39; (with_reducible refine (HBY.out _ EXd.out).mono ?_); rintro e w7 ⟨A7, rfl, hx, hcv⟩; refine hK _ _ hx ?_; clear hK)
          have Ew7 := Lib.hid (Ext.trans EXd.out hx)
          have HCV := Lib.hid hcv; clear hcv
          clear hx
          try simp only [Act.put, List.setIfInBounds_toArray, List.set_cons_zero, List.set_cons_succ]
          refine ext_take (i := 2) (v := .string ST) rfl (by kernel_rfl) (by kernel_rfl) (by kernel_rfl) (fun _ _ _ h => h) (by rfl) ?_ ?_
          · intro W hW; have hW0 := Ext.trans Ew7.out hW; have z := HCV.out W hW; go_simp
          try simp only [Act.put, List.setIfInBounds_toArray, List.set_cons_zero, List.set_cons_succ]
          refine ext_take (i := 7) (v := ?_) rfl (by kernel_rfl) (by kernel_rfl) (by kernel_rfl) (fun _ _ _ h => h) (by rfl) ?_ ?_
          rotate_left
          · intro W hW; have hW0 := Ext.trans Ew7.out hW; clear hW; go_simp <;> with_reducible rfl
          try simp only [Act.put, List.setIfInBounds_toArray, List.set_cons_zero, List.set_cons_succ]
          refine ext_take (i := 8) (v := ?_) rfl (by kernel_rfl) (by kernel_rfl) (by kernel_rfl) (fun _ _ _ h => h) (by rfl) ?_ ?_
          rotate_left
          · intro W hW; have hW0 := Ext.trans Ew7.out hW; clear hW; go_simp <;> with_reducible rfl
          try simp only [Act.put, List.setIfInBounds_toArray, List.set_cons_zero, List.set_cons_succ]
          refine ext_take (i := 9) (v := ?_) rfl (by kernel_rfl) (by kernel_rfl) (by kernel_rfl) (fun _ _ _ h => h) (by rfl) ?_ ?_
          rotate_left
          · intro W hW; have hW0 := Ext.trans Ew7.out hW; clear hW; go_simp <;> with_reducible rfl
          try simp only [Act.put, List.setIfInBounds_toArray, List.set_cons_zero, List.set_cons_succ]
          refine ext_take (i := 11) (v := ?_) rfl (by kernel_rfl) (by kernel_rfl) (by kernel_rfl) (fun _ _ _ h => h) (by rfl) ?_ ?_
          rotate_left
          · intro W hW; have hW0 := Ext.trans Ew7.out hW; clear hW; go_simp <;> with_reducible rfl
          try simp only [Act.put, List.setIfInBounds_toArray, List.set_cons_zero, List.set_cons_succ]
          refine ext_take (i := 12) (v := ?_) rfl (by kernel_rfl) (by kernel_rfl) (by kernel_rfl) (fun _ _ _ h => h) (by rfl) ?_ ?_
          rotate_left
          · intro W hW; have hW0 := Ext.trans Ew7.out hW; clear hW; go_simp <;> with_reducible rfl
          try simp only [Act.put, List.setIfInBounds_toArray, List.set_cons_zero, List.set_cons_succ]
          refine ext_take (i := 13) (v := ?_) rfl (by kernel_rfl) (by kernel_rfl) (by kernel_rfl) (fun _ _ _ h => h) (by rfl) ?_ ?_
          rotate_left
          · intro W hW; have hW0 := Ext.trans Ew7.out hW; clear hW; go_simp <;> with_reducible rfl
          try simp only [Act.put, List.setIfInBounds_toArray, List.set_cons_zero, List.set_cons_succ]
          refine ext_take (i := 14) (v := .string ST) rfl (by kernel_rfl) (by kernel_rfl) (by kernel_rfl) (fun _ _ _ h => h) (by rfl) ?_ ?_
          · intro W hW; have hW0 := Ext.trans Ew7.out hW; clear hW; have z := (HX6.out.stay hW0).cell 0; go_simp
          try simp only [Act.put, List.setIfInBounds_toArray, List.set_cons_zero, List.set_cons_succ]
          refine ext_take (i := 15) (v := ?_) rfl (by kernel_rfl) (by kernel_rfl) (by kernel_rfl) (fun _ _ _ h => h) (by rfl) ?_ ?_
          rotate_left
          · intro W hW; have hW0 := Ext.trans Ew7.out hW; clear hW; go_simp <;> with_reducible rfl
          try simp only [Act.put, List.setIfInBounds_toArray, List.set_cons_zero, List.set_cons_succ]
          refine ext_call (i := 10) rfl (by kernel_rfl) (by rfl) (fun K' hK => ?_)
          go_simp
          (go_at_call 40; (with_reducible refine (HLN.out _ Ew7.out).mono ?_); rintro e w8 ⟨rfl, hx⟩; refine hK _ _ hx ?_; clear hK)
          have Ew8 := Lib.hid (Ext.trans Ew7.out hx)
          clear hx
          try simp only [Act.put, List.setIfInBounds_toArray, List.set_cons_zero, List.set_cons_succ]
          refine ext_take (i := 16) (v := ?_) rfl (by kernel_rfl) (by kernel_rfl) (by kernel_rfl) (fun _ _ _ h => h) (by rfl) ?_ ?_
          rotate_left
          · intro W hW; have hW0 := Ext.trans Ew8.out hW; clear hW; go_simp <;> with_reducible rfl
          try simp only [Act.put, List.setIfInBounds_toArray, List.set_cons_zero, List.set_cons_succ]
          refine ext_take (i := 17) (v := ?_) rfl (by kernel_rfl) (by kernel_rfl) (by kernel_rfl) (fun _ _ _ h => h) (by rfl) ?_ ?_
          rotate_left
          · intro W hW; have hW0 := Ext.trans Ew8.out hW; clear hW; go_simp <;> with_reducible rfl
          try simp only [Act.put, List.setIfInBounds_toArray, List.set_cons_zero, List.set_cons_succ]
          refine ext_take (i := 18) (v := ?_) rfl (by kernel_rfl) (by kernel_rfl) (by kernel_rfl) (fun _ _ _ h => h) (by rfl) ?_ ?_
          rotate_left
          · intro W hW; have hW0 := Ext.trans Ew8.out hW; clear hW; go_simp <;> with_reducible rfl
          try simp only [Act.put, List.setIfInBounds_toArray, List.set_cons_zero, List.set_cons_succ]
          refine ext_take (i := 19) (v := ?_) rfl (by kernel_rfl) (by kernel_rfl) (by kernel_rfl) (fun _ _ _ h => h) (by rfl) ?_ ?_
          rotate_left
          · intro W hW; have hW0 := Ext.trans Ew8.out hW; clear hW; go_simp <;> with_reducible rfl
          try simp only [Act.put, List.setIfInBounds_toArray, List.set_cons_zero, List.set_cons_succ]
          refine ext_take (i := 21) (v := ?_) rfl (by kernel_rfl) (by kernel_rfl) (by kernel_rfl) (fun _ _ _ h => h) (by rfl) ?_ ?_
          rotate_left
          · intro W hW; have hW0 := Ext.trans Ew8.out hW; clear hW; go_simp <;> with_reducible rfl
          try simp only [Act.put, List.setIfInBounds_toArray, List.set_cons_zero, List.set_cons_succ]
          refine ext_take (i := 22) (v := ?_) rfl (by kernel_rfl) (by kernel_rfl) (by kernel_rfl) (fun _ _ _ h => h) (by rfl) ?_ ?_
          rotate_left
          · intro W hW; have hW0 := Ext.trans Ew8.out hW; clear hW; go_simp <;> with_reducible rfl
          try simp only [Act.put, List.setIfInBounds_toArray, List.set_cons_zero, List.set_cons_succ]
          refine ext_take (i := 23) (v := ?_) rfl (by kernel_rfl) (by kernel_rfl) (by kernel_rfl) (fun _ _ _ h => h) (by rfl) ?_ ?_
          rotate_left
          · intro W hW; have hW0 := Ext.trans Ew8.out hW; clear hW; go_simp <;> with_reducible rfl
          try simp only [Act.put, List.setIfInBounds_toArray, List.set_cons_zero, List.set_cons_succ]
          refine ext_take (i := 24) (v := .int .i64 S) rfl (by kernel_rfl) (by kernel_rfl) (by kernel_rfl) (fun _ _ _ h => h) (by rfl) ?_ ?_
          · intro W hW; have hW0 := Ext.trans Ew8.out hW; clear hW; have z := (HX6.out.stay hW0).cell 1; go_simp
          try simp only [Act.put, List.setIfInBounds_toArray, List.set_cons_zero, List.set_cons_succ]
          refine ext_call (i := 20) rfl (by kernel_rfl) (by rfl) (fun K' hK => ?_)
          go_simp
          (go_at_call 41; (with_reducible refine (HSY.out _ Ew8.out).mono ?_); rintro e w9 ⟨rfl, hx⟩; refine hK _ _ hx ?_; clear hK)
          have Ew9 := Lib.hid (Ext.trans Ew8.out hx)
          clear hx
          try simp only [Act.put, List.setIfInBounds_toArray, List.set_cons_zero, List.set_cons_succ]
          refine ext_take (i := 25) (v := ?_) rfl (by kernel_rfl) (by kernel_rfl) (by kernel_rfl) (fun _ _ _ h => h) (by rfl) ?_ ?_
          rotate_left
          · intro W hW; have hW0 := Ext.trans Ew9.out hW; clear hW; go_simp <;> with_reducible rfl
          try simp only [Act.put, List.setIfInBounds_toArray, List.set_cons_zero, List.set_cons_succ]
          refine ext_take (i := 26) (v := ?_) rfl (by kernel_rfl) (by kernel_rfl) (by kernel_rfl) (fun _ _ _ h => h) (by rfl) ?_ ?_
          rotate_left
          · intro W hW; have hW0 := Ext.trans Ew9.out hW; clear hW; go_simp <;> with_reducible rfl
          try simp only [Act.put, List.setIfInBounds_toArray, List.set_cons_zero, List.set_cons_succ]
          refine wpAnyH_done (by kernel_rfl) ?_ _
          go_wp2_with fail
          go_roundw
          case rel => exact ⟨j + 1, P, T, S, by omega, by omega, by go_num, rfl, (by have h1 := HZ.out; have h2 := HL6.out; omega), Lib.hid (HD6.out.stay Ew9.out), Lib.hid (by rw [HST.out]; exact HX6.out.stay Ew9.out)⟩
          case measure => simp [intOf]; omega
      ·
          have HC : Hid (Calls Try.prog 38 #[.pointer (some ⟨P, 0, none⟩)] w1 fun e w' => ∃ P', e = .returned (.pointer (some ⟨P', 0, none⟩)) ∧ Dk2 w w' P l s P' l s ∧ Below w1.heap.size w1 w') := dk_copy HD1.out (by omega)
          have HG : Hid (∀ V P', Dk2 w V P l s P' l s → Calls Try.prog 33 #[.pointer (some ⟨P, 0, none⟩), .slice (some ⟨V.heap.size, 0, none⟩) 4 4] (V.alloc (.cells #[.int .u8 103, .int .u8 111, .int .u8 110, .int .u8 101] 5 (4, 5))) fun e w' => e = .returned (.tuple #[]) ∧ Dk2 w w' P (l ++ [103, 111, 110, 101]) s P' l s ∧ Oth V w') := fun V P' H => dk_const2 H [103, 111, 110, 101] (by simp; omega)
          have HR : Hid (∀ V P', Dk2 w V P (l ++ [103, 111, 110, 101]) s P' l s → Calls Try.prog 36 #[.pointer (some ⟨P, 0, none⟩), .int .i64 0] V fun e w' => e = .returned (.tuple #[]) ∧ Dk w w' P' l s ∧ Oth V w') := fun V P' H => (dk_crash2 H 0 (by simp; omega)).mono fun _ _ ⟨he, h1, h2⟩ => ⟨he, Dk.snd h1, h2⟩
          have kc := kc
          obtain ⟨h0, h1, h2, h3⟩ := g
          go_wp2_with (first
            | (go_at_call 38; rw [← HW1.out]; (with_reducible refine (HC.out).mono ?_); rintro e w2 ⟨P2, rfl, hh1, hh2⟩; have HD2 := Lib.hid hh1; have HX2 := Lib.hid (HX1.out.stay hh2); clear hh1 hh2)
            | (go_at_call 33; (with_reducible refine (HG.out _ _ HD2.out).mono ?_); rintro e w3 ⟨rfl, hh1, hh2⟩; have HD3 := Lib.hid hh1; have HX3 := Lib.hid (hh2 _ _ _ HX2.out (by decide) (by decide)); clear hh1 hh2)
            | (go_at_call 36; (with_reducible refine (HR.out _ _ HD3.out).mono ?_); rintro e w6 ⟨rfl, hh1, hh2⟩; have HD5 := Lib.hid hh1; have HX5 := Lib.hid (hh2 _ _ _ HX3.out (by decide) (by decide)); clear hh1 hh2))
          clear kc h0 h1 h2 h3
          obtain ⟨T, hT⟩ : ∃ T, T = l := ⟨_, rfl⟩
          obtain ⟨S, hS⟩ : ∃ S, S = s := ⟨_, rfl⟩
          have HX6 : Hid (Blk w6 X 55 #[.string (str T), .int .i64 (S : Nat)]) := by (show Blk _ _ _ _); rw [hT, hS]; exact HX5.out
          have HD6 : Hid (Dk w w6 P2 T S) := by (show Dk _ _ _ _ _); rw [hT, hS]; exact HD5.out
          have HL6 : Hid (T.length ≤ 50 * (j + 1)) := by (show _ ≤ _); rw [hT]; omega
          clear HC HR HG HX5 HX2 HX3 HD2 HD3 HD5
          clear hT hS
          clear HX1 HD1 HO1 HB1 HD HX HSL
          obtain ⟨HBY, HLN, HSY⟩ := asks HD6.out (by have := HL6.out; omega)
          obtain ⟨Z, hZ⟩ : ∃ Z, T.length = Z := ⟨_, rfl⟩
          obtain ⟨ST, hST⟩ : ∃ ST, str T = ST := ⟨_, rfl⟩
          rw [hZ] at HBY HLN HL6
          rw [hST] at HX6 HBY
          have HZ := Lib.hid hZ
          have HST := Lib.hid hST
          clear hZ hST
          have hsz : ST.size = Z := by rw [← HST.out, str_size, HZ.out]
          have EX := Lib.hid (Ext.refl w6)
          refine ext_begin (by kernel_rfl) ?_
          have EXd := Lib.hid (Ext.drewR EX.out)
          refine ext_take (i := 0) (v := ?_) rfl (by kernel_rfl) (by kernel_rfl) (by kernel_rfl) (fun _ _ _ h => h) (by rfl) ?_ ?_
          rotate_left
          · intro W hW; have hW0 := Ext.trans EXd.out hW; clear hW; go_simp <;> with_reducible rfl
          try simp only [Act.put, List.setIfInBounds_toArray, List.set_cons_zero, List.set_cons_succ]
          refine ext_take (i := 3) (v := ?_) rfl (by kernel_rfl) (by kernel_rfl) (by kernel_rfl) (fun _ _ _ h => h) (by rfl) ?_ ?_
          rotate_left
          · intro W hW; have hW0 := Ext.trans EXd.out hW; clear hW; go_simp <;> with_reducible rfl
          try simp only [Act.put, List.setIfInBounds_toArray, List.set_cons_zero, List.set_cons_succ]
          refine ext_take (i := 4) (v := ?_) rfl (by kernel_rfl) (by kernel_rfl) (by kernel_rfl) (fun _ _ _ h => h) (by rfl) ?_ ?_
          rotate_left
          · intro W hW; have hW0 := Ext.trans EXd.out hW; clear hW; go_simp <;> with_reducible rfl
          try simp only [Act.put, List.setIfInBounds_toArray, List.set_cons_zero, List.set_cons_succ]
          refine ext_take (i := 5) (v := ?_) rfl (by kernel_rfl) (by kernel_rfl) (by kernel_rfl) (fun _ _ _ h => h) (by rfl) ?_ ?_
          rotate_left
          · intro W hW; have hW0 := Ext.trans EXd.out hW; clear hW; go_simp <;> with_reducible rfl
          try simp only [Act.put, List.setIfInBounds_toArray, List.set_cons_zero, List.set_cons_succ]
          refine ext_take (i := 6) (v := .string ST) rfl (by kernel_rfl) (by kernel_rfl) (by kernel_rfl) (fun _ _ _ h => h) (by rfl) ?_ ?_
          · intro W hW; have hW0 := Ext.trans EXd.out hW; clear hW; have z := (HX6.out.stay hW0).cell 0; go_simp
          try simp only [Act.put, List.setIfInBounds_toArray, List.set_cons_zero, List.set_cons_succ]
          refine ext_call (i := 1) rfl (by kernel_rfl) (by rfl) (fun K' hK => ?_)
          go_simp
          (go_at_call 39; (with_reducible refine (HBY.out _ EXd.out).mono ?_); rintro e w7 ⟨A7, rfl, hx, hcv⟩; refine hK _ _ hx ?_; clear hK)
          have Ew7 := Lib.hid (Ext.trans EXd.out hx)
          have HCV := Lib.hid hcv; clear hcv
          clear hx
          try simp only [Act.put, List.setIfInBounds_toArray, List.set_cons_zero, List.set_cons_succ]
          refine ext_take (i := 2) (v := .string ST) rfl (by kernel_rfl) (by kernel_rfl) (by kernel_rfl) (fun _ _ _ h => h) (by rfl) ?_ ?_
          · intro W hW; have hW0 := Ext.trans Ew7.out hW; have z := HCV.out W hW; go_simp
          try simp only [Act.put, List.setIfInBounds_toArray, List.set_cons_zero, List.set_cons_succ]
          refine ext_take (i := 7) (v := ?_) rfl (by kernel_rfl) (by kernel_rfl) (by kernel_rfl) (fun _ _ _ h => h) (by rfl) ?_ ?_
          rotate_left
          · intro W hW; have hW0 := Ext.trans Ew7.out hW; clear hW; go_simp <;> with_reducible rfl
          try simp only [Act.put, List.setIfInBounds_toArray, List.set_cons_zero, List.set_cons_succ]
          refine ext_take (i := 8) (v := ?_) rfl (by kernel_rfl) (by kernel_rfl) (by kernel_rfl) (fun _ _ _ h => h) (by rfl) ?_ ?_
          rotate_left
          · intro W hW; have hW0 := Ext.trans Ew7.out hW; clear hW; go_simp <;> with_reducible rfl
          try simp only [Act.put, List.setIfInBounds_toArray, List.set_cons_zero, List.set_cons_succ]
          refine ext_take (i := 9) (v := ?_) rfl (by kernel_rfl) (by kernel_rfl) (by kernel_rfl) (fun _ _ _ h => h) (by rfl) ?_ ?_
          rotate_left
          · intro W hW; have hW0 := Ext.trans Ew7.out hW; clear hW; go_simp <;> with_reducible rfl
          try simp only [Act.put, List.setIfInBounds_toArray, List.set_cons_zero, List.set_cons_succ]
          refine ext_take (i := 11) (v := ?_) rfl (by kernel_rfl) (by kernel_rfl) (by kernel_rfl) (fun _ _ _ h => h) (by rfl) ?_ ?_
          rotate_left
          · intro W hW; have hW0 := Ext.trans Ew7.out hW; clear hW; go_simp <;> with_reducible rfl
          try simp only [Act.put, List.setIfInBounds_toArray, List.set_cons_zero, List.set_cons_succ]
          refine ext_take (i := 12) (v := ?_) rfl (by kernel_rfl) (by kernel_rfl) (by kernel_rfl) (fun _ _ _ h => h) (by rfl) ?_ ?_
          rotate_left
          · intro W hW; have hW0 := Ext.trans Ew7.out hW; clear hW; go_simp <;> with_reducible rfl
          try simp only [Act.put, List.setIfInBounds_toArray, List.set_cons_zero, List.set_cons_succ]
          refine ext_take (i := 13) (v := ?_) rfl (by kernel_rfl) (by kernel_rfl) (by kernel_rfl) (fun _ _ _ h => h) (by rfl) ?_ ?_
          rotate_left
          · intro W hW; have hW0 := Ext.trans Ew7.out hW; clear hW; go_simp <;> with_reducible rfl
          try simp only [Act.put, List.setIfInBounds_toArray, List.set_cons_zero, List.set_cons_succ]
          refine ext_take (i := 14) (v := .string ST) rfl (by kernel_rfl) (by kernel_rfl) (by kernel_rfl) (fun _ _ _ h => h) (by rfl) ?_ ?_
          · intro W hW; have hW0 := Ext.trans Ew7.out hW; clear hW; have z := (HX6.out.stay hW0).cell 0; go_simp
          try simp only [Act.put, List.setIfInBounds_toArray, List.set_cons_zero, List.set_cons_succ]
          refine ext_take (i := 15) (v := ?_) rfl (by kernel_rfl) (by kernel_rfl) (by kernel_rfl) (fun _ _ _ h => h) (by rfl) ?_ ?_
          rotate_left
          · intro W hW; have hW0 := Ext.trans Ew7.out hW; clear hW; go_simp <;> with_reducible rfl
          try simp only [Act.put, List.setIfInBounds_toArray, List.set_cons_zero, List.set_cons_succ]
          refine ext_call (i := 10) rfl (by kernel_rfl) (by rfl) (fun K' hK => ?_)
          go_simp
          (go_at_call 40; (with_reducible refine (HLN.out _ Ew7.out).mono ?_); rintro e w8 ⟨rfl, hx⟩; refine hK _ _ hx ?_; clear hK)
          have Ew8 := Lib.hid (Ext.trans Ew7.out hx)
          clear hx
          try simp only [Act.put, List.setIfInBounds_toArray, List.set_cons_zero, List.set_cons_succ]
          refine ext_take (i := 16) (v := ?_) rfl (by kernel_rfl) (by kernel_rfl) (by kernel_rfl) (fun _ _ _ h => h) (by rfl) ?_ ?_
          rotate_left
          · intro W hW; have hW0 := Ext.trans Ew8.out hW; clear hW; go_simp <;> with_reducible rfl
          try simp only [Act.put, List.setIfInBounds_toArray, List.set_cons_zero, List.set_cons_succ]
          refine ext_take (i := 17) (v := ?_) rfl (by kernel_rfl) (by kernel_rfl) (by kernel_rfl) (fun _ _ _ h => h) (by rfl) ?_ ?_
          rotate_left
          · intro W hW; have hW0 := Ext.trans Ew8.out hW; clear hW; go_simp <;> with_reducible rfl
          try simp only [Act.put, List.setIfInBounds_toArray, List.set_cons_zero, List.set_cons_succ]
          refine ext_take (i := 18) (v := ?_) rfl (by kernel_rfl) (by kernel_rfl) (by kernel_rfl) (fun _ _ _ h => h) (by rfl) ?_ ?_
          rotate_left
          · intro W hW; have hW0 := Ext.trans Ew8.out hW; clear hW; go_simp <;> with_reducible rfl
          try simp only [Act.put, List.setIfInBounds_toArray, List.set_cons_zero, List.set_cons_succ]
          refine ext_take (i := 19) (v := ?_) rfl (by kernel_rfl) (by kernel_rfl) (by kernel_rfl) (fun _ _ _ h => h) (by rfl) ?_ ?_
          rotate_left
          · intro W hW; have hW0 := Ext.trans Ew8.out hW; clear hW; go_simp <;> with_reducible rfl
          try simp only [Act.put, List.setIfInBounds_toArray, List.set_cons_zero, List.set_cons_succ]
          refine ext_take (i := 21) (v := ?_) rfl (by kernel_rfl) (by kernel_rfl) (by kernel_rfl) (fun _ _ _ h => h) (by rfl) ?_ ?_
          rotate_left
          · intro W hW; have hW0 := Ext.trans Ew8.out hW; clear hW; go_simp <;> with_reducible rfl
          try simp only [Act.put, List.setIfInBounds_toArray, List.set_cons_zero, List.set_cons_succ]
          refine ext_take (i := 22) (v := ?_) rfl (by kernel_rfl) (by kernel_rfl) (by kernel_rfl) (fun _ _ _ h => h) (by rfl) ?_ ?_
          rotate_left
          · intro W hW; have hW0 := Ext.trans Ew8.out hW; clear hW; go_simp <;> with_reducible rfl
          try simp only [Act.put, List.setIfInBounds_toArray, List.set_cons_zero, List.set_cons_succ]
          refine ext_take (i := 23) (v := ?_) rfl (by kernel_rfl) (by kernel_rfl) (by kernel_rfl) (fun _ _ _ h => h) (by rfl) ?_ ?_
          rotate_left
          · intro W hW; have hW0 := Ext.trans Ew8.out hW; clear hW; go_simp <;> with_reducible rfl
          try simp only [Act.put, List.setIfInBounds_toArray, List.set_cons_zero, List.set_cons_succ]
          refine ext_take (i := 24) (v := .int .i64 S) rfl (by kernel_rfl) (by kernel_rfl) (by kernel_rfl) (fun _ _ _ h => h) (by rfl) ?_ ?_
          · intro W hW; have hW0 := Ext.trans Ew8.out hW; clear hW; have z := (HX6.out.stay hW0).cell 1; go_simp
          try simp only [Act.put, List.setIfInBounds_toArray, List.set_cons_zero, List.set_cons_succ]
          refine ext_call (i := 20) rfl (by kernel_rfl) (by rfl) (fun K' hK => ?_)
          go_simp
          (go_at_call 41; (with_reducible refine (HSY.out _ Ew8.out).mono ?_); rintro e w9 ⟨rfl, hx⟩; refine hK _ _ hx ?_; clear hK)
          have Ew9 := Lib.hid (Ext.trans Ew8.out hx)
          clear hx
          try simp only [Act.put, List.setIfInBounds_toArray, List.set_cons_zero, List.set_cons_succ]
          refine ext_take (i := 25) (v := ?_) rfl (by kernel_rfl) (by kernel_rfl) (by kernel_rfl) (fun _ _ _ h => h) (by rfl) ?_ ?_
          rotate_left
          · intro W hW; have hW0 := Ext.trans Ew9.out hW; clear hW; go_simp <;> with_reducible rfl
          try simp only [Act.put, List.setIfInBounds_toArray, List.set_cons_zero, List.set_cons_succ]
          refine ext_take (i := 26) (v := ?_) rfl (by kernel_rfl) (by kernel_rfl) (by kernel_rfl) (fun _ _ _ h => h) (by rfl) ?_ ?_
          rotate_left
          · intro W hW; have hW0 := Ext.trans Ew9.out hW; clear hW; go_simp <;> with_reducible rfl
          try simp only [Act.put, List.setIfInBounds_toArray, List.set_cons_zero, List.set_cons_succ]
          refine wpAnyH_done (by kernel_rfl) ?_ _
          go_wp2_with fail
          go_roundw
          case rel => exact ⟨j + 1, P2, T, S, by omega, by omega, by go_num, rfl, (by have h1 := HZ.out; have h2 := HL6.out; omega), Lib.hid (HD6.out.stay Ew9.out), Lib.hid (by rw [HST.out]; exact HX6.out.stay Ew9.out)⟩
          case measure => simp [intOf]; omega
    · have hjn : j = n ∨ (j < n ∧ ¬ j < 60) := by omega
      clear hlt
      rcases Nat.eq_zero_or_pos l.length with g0 | g0
      · rcases hjn with rfl | ⟨t1, t2⟩
        all_goals
          have HC : Hid (Calls Try.prog 39 #[.pointer (some ⟨P, 0, none⟩)] wr fun e w' => e = .returned (.slice (some ⟨wr.heap.size, 0, none⟩) l.length l.length) ∧ Ext wr w' ∧ Blk w' wr.heap.size 5 (l.map Go.Proofs.Ytbjekbbokhjfmaa.u8).toArray) := (dk_bytes HD.out (by omega)).mono fun _ _ ⟨he, h1, h2, _⟩ => ⟨he, h1, h2⟩
          obtain rfl : l = [] := List.eq_nil_of_length_eq_zero g0
          simp only [List.length_nil] at HC
          clear g0
          go_wp2_with (first
            | (go_at_call 39; (with_reducible refine (HC.out).mono ?_); rintro e w6 ⟨rfl, hh1, _⟩; have HB6 := Lib.hid hh1; clear hh1))
          generalize hll : ([] : List UInt8) = l at *
          have HX6 := Lib.hid (HX.out.stay HB6.out)
          have HD6 := Lib.hid (HD.out.stay HB6.out)
          clear hll
          obtain ⟨HBY, _, _⟩ := asks HD6.out (by omega)
          have EX := Lib.hid (Ext.refl w6)
          refine ext_begin (by kernel_rfl) ?_
          have EXd := Lib.hid (Ext.drewR EX.out)
          refine ext_call (i := 0) rfl (by kernel_rfl) (by rfl) (fun K' hK => ?_)
          go_simp
          (go_at_call 32; (with_reducible refine (told_disk _).mono ?_); rintro e w8 ⟨rfl, hx⟩; refine hK _ _ hx ?_; clear hK)
          have Ew8 := Lib.hid (Ext.trans EXd.out hx)
          clear hx
          try simp only [Act.put, List.setIfInBounds_toArray, List.set_cons_zero, List.set_cons_succ]
          refine ext_take (i := 1) (v := ?_) rfl (by kernel_rfl) (by kernel_rfl) (by kernel_rfl) (fun _ _ _ h => h) (by rfl) ?_ ?_
          rotate_left
          · intro W hW; have hW0 := Ext.trans Ew8.out hW; clear hW; go_simp <;> with_reducible rfl
          try simp only [Act.put, List.setIfInBounds_toArray, List.set_cons_zero, List.set_cons_succ]
          refine ext_take (i := 2) (v := ?_) rfl (by kernel_rfl) (by kernel_rfl) (by kernel_rfl) (fun _ _ _ h => h) (by rfl) ?_ ?_
          rotate_left
          · intro W hW; have hW0 := Ext.trans Ew8.out hW; clear hW; go_simp <;> with_reducible rfl
          try simp only [Act.put, List.setIfInBounds_toArray, List.set_cons_zero, List.set_cons_succ]
          refine ext_take (i := 5) (v := ?_) rfl (by kernel_rfl) (by kernel_rfl) (by kernel_rfl) (fun _ _ _ h => h) (by rfl) ?_ ?_
          rotate_left
          · intro W hW; have hW0 := Ext.trans Ew8.out hW; clear hW; go_simp <;> with_reducible rfl
          try simp only [Act.put, List.setIfInBounds_toArray, List.set_cons_zero, List.set_cons_succ]
          refine ext_take (i := 6) (v := ?_) rfl (by kernel_rfl) (by kernel_rfl) (by kernel_rfl) (fun _ _ _ h => h) (by rfl) ?_ ?_
          rotate_left
          · intro W hW; have hW0 := Ext.trans Ew8.out hW; clear hW; go_simp <;> with_reducible rfl
          try simp only [Act.put, List.setIfInBounds_toArray, List.set_cons_zero, List.set_cons_succ]
          refine ext_take (i := 7) (v := ?_) rfl (by kernel_rfl) (by kernel_rfl) (by kernel_rfl) (fun _ _ _ h => h) (by rfl) ?_ ?_
          rotate_left
          · intro W hW; have hW0 := Ext.trans Ew8.out hW; clear hW; go_simp <;> with_reducible rfl
          try simp only [Act.put, List.setIfInBounds_toArray, List.set_cons_zero, List.set_cons_succ]
          refine ext_take (i := 8) (v := .string (str l)) rfl (by kernel_rfl) (by kernel_rfl) (by kernel_rfl) (fun _ _ _ h => h) (by rfl) ?_ ?_
          · intro W hW; have hW0 := Ext.trans Ew8.out hW; clear hW; have z := (HX6.out.stay hW0).cell 0; go_simp
          try simp only [Act.put, List.setIfInBounds_toArray, List.set_cons_zero, List.set_cons_succ]
          refine ext_call (i := 3) rfl (by kernel_rfl) (by rfl) (fun K' hK => ?_)
          go_simp
          (go_at_call 39; (with_reducible refine (HBY.out _ Ew8.out).mono ?_); rintro e w9 ⟨A7, rfl, hx, hcv⟩; refine hK _ _ hx ?_; clear hK)
          have Ew9 := Lib.hid (Ext.trans Ew8.out hx)
          have HCV := Lib.hid hcv; clear hcv
          clear hx
          try simp only [Act.put, List.setIfInBounds_toArray, List.set_cons_zero, List.set_cons_succ]
          refine ext_take (i := 4) (v := .string (str l)) rfl (by kernel_rfl) (by kernel_rfl) (by kernel_rfl) (fun _ _ _ h => h) (by rfl) ?_ ?_
          · intro W hW; have hW0 := Ext.trans Ew9.out hW; have z := HCV.out W hW; go_simp
          try simp only [Act.put, List.setIfInBounds_toArray, List.set_cons_zero, List.set_cons_succ]
          refine ext_take (i := 9) (v := ?_) rfl (by kernel_rfl) (by kernel_rfl) (by kernel_rfl) (fun _ _ _ h => h) (by rfl) ?_ ?_
          rotate_left
          · intro W hW; have hW0 := Ext.trans Ew9.out hW; clear hW; go_simp <;> with_reducible rfl
          try simp only [Act.put, List.setIfInBounds_toArray, List.set_cons_zero, List.set_cons_succ]
          refine ext_take (i := 10) (v := ?_) rfl (by kernel_rfl) (by kernel_rfl) (by kernel_rfl) (fun _ _ _ h => h) (by rfl) ?_ ?_
          rotate_left
          · intro W hW; have hW0 := Ext.trans Ew9.out hW; clear hW; go_simp <;> with_reducible rfl
          try simp only [Act.put, List.setIfInBounds_toArray, List.set_cons_zero, List.set_cons_succ]
          refine ext_take (i := 11) (v := ?_) rfl (by kernel_rfl) (by kernel_rfl) (by kernel_rfl) (fun _ _ _ h => h) (by rfl) ?_ ?_
          rotate_left
          · intro W hW; have hW0 := Ext.trans Ew9.out hW; clear hW; go_simp <;> with_reducible rfl
          try simp only [Act.put, List.setIfInBounds_toArray, List.set_cons_zero, List.set_cons_succ]
          refine wpAnyH_done (by kernel_rfl) ?_ _
          go_wp2_with fail
          try go_ret
          exact hD.out _ _ ⟨rfl, Below.step HD6.out.1 Ew9.out⟩
      · rcases hjn with rfl | ⟨t1, t2⟩
        all_goals
          have HC : Hid (Calls Try.prog 39 #[.pointer (some ⟨P, 0, none⟩)] wr fun e w' => e = .returned (.slice (some ⟨wr.heap.size, 0, none⟩) l.length l.length) ∧ Ext wr w' ∧ Blk w' wr.heap.size 5 (l.map Go.Proofs.Ytbjekbbokhjfmaa.u8).toArray) := (dk_bytes HD.out (by omega)).mono fun _ _ ⟨he, h1, h2, _⟩ => ⟨he, h1, h2⟩
          obtain ⟨z, hz0⟩ : ∃ z, (l.map Go.Proofs.Ytbjekbbokhjfmaa.u8).toArray[0]? = some (.int .u8 z) := by
            cases l with
            | nil => simp at g0
            | cons c r => exact ⟨_, rfl⟩
          have g1 : (0 : Int) < (l.length : Int) := by omega
          go_wp2_with (first
            | (go_at_call 39; (with_reducible refine (HC.out).mono ?_); rintro e w5 ⟨rfl, hh1, hh2⟩; have HB5 := Lib.hid hh1; have HC5 := Lib.hid hh2; have y0 := hh2.cell 0; rw [hz0] at y0; have y1 := hh2.frozen 0; clear hh1 hh2))
          clear y0 y1 hz0
          obtain ⟨w6, hw6⟩ : ∃ w6, w6 = w5.setCell ⟨wr.heap.size, 0, none⟩ (.int .u8 ((z + 1) % 256)) := ⟨_, rfl⟩
          rw [← hw6]
          have HB6 : Hid (Ext wr w6) := by (show Below _ _ _); rw [hw6]; exact Frm.step HB5.out (Frm.of_set (s := fun k => k = wr.heap.size) _ _ _ rfl) HB5.out.size (fun k hk => by rw [hk]; exact Nat.le_refl _)
          have HX6 := Lib.hid (HX.out.stay HB6.out)
          have HD6 := Lib.hid (HD.out.stay HB6.out)
          clear hw6
          obtain ⟨HBY, _, _⟩ := asks HD6.out (by omega)
          have EX := Lib.hid (Ext.refl w6)
          refine ext_begin (by kernel_rfl) ?_
          have EXd := Lib.hid (Ext.drewR EX.out)
          refine ext_call (i := 0) rfl (by kernel_rfl) (by rfl) (fun K' hK => ?_)
          go_simp
          (go_at_call 32; (with_reducible refine (told_disk _).mono ?_); rintro e w8 ⟨rfl, hx⟩; refine hK _ _ hx ?_; clear hK)
          have Ew8 := Lib.hid (Ext.trans EXd.out hx)
          clear hx
          try simp only [Act.put, List.setIfInBounds_toArray, List.set_cons_zero, List.set_cons_succ]
          refine ext_take (i := 1) (v := ?_) rfl (by kernel_rfl) (by kernel_rfl) (by kernel_rfl) (fun _ _ _ h => h) (by rfl) ?_ ?_
          rotate_left
          · intro W hW; have hW0 := Ext.trans Ew8.out hW; clear hW; go_simp <;> with_reducible rfl
          try simp only [Act.put, List.setIfInBounds_toArray, List.set_cons_zero, List.set_cons_succ]
          refine ext_take (i := 2) (v := ?_) rfl (by kernel_rfl) (by kernel_rfl) (by kernel_rfl) (fun _ _ _ h => h) (by rfl) ?_ ?_
          rotate_left
          · intro W hW; have hW0 := Ext.trans Ew8.out hW; clear hW; go_simp <;> with_reducible rfl
          try simp only [Act.put, List.setIfInBounds_toArray, List.set_cons_zero, List.set_cons_succ]
          refine ext_take (i := 5) (v := ?_) rfl (by kernel_rfl) (by kernel_rfl) (by kernel_rfl) (fun _ _ _ h => h) (by rfl) ?_ ?_
          rotate_left
          · intro W hW; have hW0 := Ext.trans Ew8.out hW; clear hW; go_simp <;> with_reducible rfl
          try simp only [Act.put, List.setIfInBounds_toArray, List.set_cons_zero, List.set_cons_succ]
          refine ext_take (i := 6) (v := ?_) rfl (by kernel_rfl) (by kernel_rfl) (by kernel_rfl) (fun _ _ _ h => h) (by rfl) ?_ ?_
          rotate_left
          · intro W hW; have hW0 := Ext.trans Ew8.out hW; clear hW; go_simp <;> with_reducible rfl
          try simp only [Act.put, List.setIfInBounds_toArray, List.set_cons_zero, List.set_cons_succ]
          refine ext_take (i := 7) (v := ?_) rfl (by kernel_rfl) (by kernel_rfl) (by kernel_rfl) (fun _ _ _ h => h) (by rfl) ?_ ?_
          rotate_left
          · intro W hW; have hW0 := Ext.trans Ew8.out hW; clear hW; go_simp <;> with_reducible rfl
          try simp only [Act.put, List.setIfInBounds_toArray, List.set_cons_zero, List.set_cons_succ]
          refine ext_take (i := 8) (v := .string (str l)) rfl (by kernel_rfl) (by kernel_rfl) (by kernel_rfl) (fun _ _ _ h => h) (by rfl) ?_ ?_
          · intro W hW; have hW0 := Ext.trans Ew8.out hW; clear hW; have z := (HX6.out.stay hW0).cell 0; go_simp
          try simp only [Act.put, List.setIfInBounds_toArray, List.set_cons_zero, List.set_cons_succ]
          refine ext_call (i := 3) rfl (by kernel_rfl) (by rfl) (fun K' hK => ?_)
          go_simp
          (go_at_call 39; (with_reducible refine (HBY.out _ Ew8.out).mono ?_); rintro e w9 ⟨A7, rfl, hx, hcv⟩; refine hK _ _ hx ?_; clear hK)
          have Ew9 := Lib.hid (Ext.trans Ew8.out hx)
          have HCV := Lib.hid hcv; clear hcv
          clear hx
          try simp only [Act.put, List.setIfInBounds_toArray, List.set_cons_zero, List.set_cons_succ]
          refine ext_take (i := 4) (v := .string (str l)) rfl (by kernel_rfl) (by kernel_rfl) (by kernel_rfl) (fun _ _ _ h => h) (by rfl) ?_ ?_
          · intro W hW; have hW0 := Ext.trans Ew9.out hW; have z := HCV.out W hW; go_simp
          try simp only [Act.put, List.setIfInBounds_toArray, List.set_cons_zero, List.set_cons_succ]
          refine ext_take (i := 9) (v := ?_) rfl (by kernel_rfl) (by kernel_rfl) (by kernel_rfl) (fun _ _ _ h => h) (by rfl) ?_ ?_
          rotate_left
          · intro W hW; have hW0 := Ext.trans Ew9.out hW; clear hW; go_simp <;> with_reducible rfl
          try simp only [Act.put, List.setIfInBounds_toArray, List.set_cons_zero, List.set_cons_succ]
          refine ext_take (i := 10) (v := ?_) rfl (by kernel_rfl) (by kernel_rfl) (by kernel_rfl) (fun _ _ _ h => h) (by rfl) ?_ ?_
          rotate_left
          · intro W hW; have hW0 := Ext.trans Ew9.out hW; clear hW; go_simp <;> with_reducible rfl
          try simp only [Act.put, List.setIfInBounds_toArray, List.set_cons_zero, List.set_cons_succ]
          refine ext_take (i := 11) (v := ?_) rfl (by kernel_rfl) (by kernel_rfl) (by kernel_rfl) (fun _ _ _ h => h) (by rfl) ?_ ?_
          rotate_left
          · intro W hW; have hW0 := Ext.trans Ew9.out hW; clear hW; go_simp <;> with_reducible rfl
          try simp only [Act.put, List.setIfInBounds_toArray, List.set_cons_zero, List.set_cons_succ]
          refine wpAnyH_done (by kernel_rfl) ?_ _
          go_wp2_with fail
          try go_ret
          exact hD.out _ _ ⟨rfl, Below.step HD6.out.1 Ew9.out⟩
theorem law_diskPlays {H : Type} {enc : TypeId × Value → H} (W : World) (base : Nat) (args : Array Value) (ds : List (DataW H)) (p : List MemPlace)
    (hval : ∀ (j : Nat) t v, Try.f11.params[j]? = some t → args[j]? = some v → Value.okWide Try.prog W .any base t v)
    (hA : DataW.TrodAll enc Try.prog W 0 (fun _ => true) true Try.f11.params.toList args.toList ds p) :
    Calls Try.prog 11 args W fun e W' => e = .returned (.bool true) ∧ Below W.heap.size W W' := by
  rw [Try.params11] at hA hval
  obtain ⟨v0, vs0, d0, ds0, p0, q0, hargs, rfl, rfl, h0, r0⟩ := trodAll_cons hA
  obtain ⟨rfl, rfl, rfl⟩ := trodAll_nil r0
  obtain rfl : args = #[v0] := by cases args; simp_all
  obtain ⟨A0, n0, c0, rfl⟩ := okWide_slice Try.underlying50 (hval 0 50 v0 rfl rfl)
  obtain ⟨fuel0, hf0⟩ := h0
  obtain ⟨B0, e0, l0, hcs0, x0, y0⟩ := open_ops hf0
  simp only [Value.cells, List.cons.injEq, Value.slice.injEq, and_true] at hcs0
  obtain ⟨rfl, rfl, rfl⟩ := hcs0
  exact walk_diskPlays A0 n0 c0 W x0 y0
end Go.Proofs.Ytbjekbbokhjfmaa
