/-
  A request read from bytes: item.Get, item.GetReq.
-/
import Derived.Test.YtdbnaflaobncgaaItemLaw2
import Derived.Test.YtdbnaflaobncgaaPackRt
namespace Go.Proofs.Ytdbnaflaobncgaa
set_option linter.unusedVariables false
set_option linter.unusedSimpArgs false
open Go.RowKit

set_option maxRecDepth 8000 in
set_option maxHeartbeats 4000000 in
theorem getN_any (P : Nat) (l : List UInt8) (bad : Bool) (M b : Nat) (w : World) (H : RdAt w P l bad) (hc : w.cell? ⟨b, 0, none⟩ = some (.pointer (some ⟨P, 0, none⟩))) (hM : M ≤ 1073741824) (hl : l.length ≤ 1000000000) :
    Calls Try.prog 68 #[.int .i64 M, .pointer (some ⟨b, 0, none⟩)] w fun e w' => e = .returned (.int .i64 (rdNum l bad M).1) ∧ RdAt w' P (rdNum l bad M).2.1 (rdNum l bad M).2.2 ∧ Frm (fun k => k = P) w w' := by
  refine hide_post fun D hD => ?_
  have C1 : Hid (Calls Try.prog 63 #[.pointer (some ⟨P, 0, none⟩), .int .u64 M] w fun e w' => e = .returned (.int .u64 (rdNum l bad M).1) ∧ RdAt w' P (rdNum l bad M).2.1 (rdNum l bad M).2.2 ∧ Frm (fun k => k = P) w w') := numR_any P l bad M w H hl
  have hlen := (rdNum_len l bad M).2
  generalize rdNum l bad M = x at *
  obtain ⟨v1, l1, b1⟩ := x
  simp only at *
  have hq1 : IntKind.i64.wrap (v1 : Int) = (v1 : Int) := IntWalk.i64_in _ (by omega)
  have hq2 : IntKind.u64.wrap (M : Int) = (M : Int) := IntKind.wrap_u64_nat M (by omega)
  clear H hlen
  go_enter Try.func68, Try.ntmps68
  go_wp2_with (go_at_call 63; (with_reducible refine C1.out.mono ?_); rintro e w1 ⟨rfl, hr, hf⟩; have HR := Lib.hid hr; have HF := Lib.hid hf; clear hr hf)
  try go_ret
  exact hD.out _ _ ⟨rfl, HR.out, HF.out⟩

/-- a step of reading: what Num answers, named -/
theorem getN_is (P : Nat) (l : List UInt8) (bad : Bool) (M b : Nat) (Mi : Int) (hMi : Mi = M) (hM : M ≤ 1073741824) (hl : l.length ≤ 1000000000) : ∃ v l1 b1, rdNum l bad M = (v, l1, b1) ∧ l1.length ≤ 1000000000 ∧ v ≤ M ∧
    Hid (∀ w, RdAt w P l bad → w.cell? ⟨b, 0, none⟩ = some (.pointer (some ⟨P, 0, none⟩)) → Calls Try.prog 68 #[.int .i64 Mi, .pointer (some ⟨b, 0, none⟩)] w fun e w' => e = .returned (.int .i64 v) ∧ RdAt w' P l1 b1 ∧ Frm (fun k => k = P) w w') := by
  subst hMi
  have h := fun w H hc => getN_any P l bad M b w H hc hM hl
  have hlen := rdNum_len l bad M
  generalize rdNum l bad M = x at *
  obtain ⟨v1, l1, b1⟩ := x
  exact ⟨v1, l1, b1, rfl, Nat.le_trans hlen.1 hl, hlen.2, h⟩

theorem RdAt.far {w w' : World} {P z : Nat} {l : List UInt8} {b : Bool} (H : RdAt w P l b) {t : TypeId} {cs : Array Value} (hz : Blk w z t cs) (ht : t ≠ 5) (hcs : ∀ i n : Nat, cs[i]? ≠ some (.int .u8 n)) (hP : P ≠ z) (hf : Frm (fun k => k = z) w w') : RdAt w' P l b := by
  obtain ⟨A, cap, h1, h2, h3, h4⟩ := H
  refine ⟨A, cap, h1.frm hf hP, fun j v hj => ?_, h3, h4⟩
  obtain ⟨b', o', e, hc⟩ := h2 j v hj
  refine ⟨b', o', e, (World.cell?_of_block (hf.block b' (World.block_lt_of_cell? w _ hc) ?_)).trans hc⟩
  intro hb
  subst hb
  rw [Blk.cell hz] at hc
  exact hcs _ _ hc

set_option maxRecDepth 8000 in
set_option maxHeartbeats 16000000 in
theorem getQ_any (P : Nat) (l : List UInt8) (bad : Bool) (w : World) (H : RdAt w P l bad) (hl : l.length ≤ 1000000000) :
    Calls Try.prog 57 #[.pointer (some ⟨P, 0, none⟩)] w fun e w' => ∃ q l' b', RdQ 4 1073741824 6 31 100 64 l bad q l' b' ∧ e = .returned q.val ∧ q.d.size ≤ 64 ∧ l'.length ≤ 1000000000 ∧ RdAt w' P l' b' ∧ Frm (fun k => k = P) w w' := by
  refine hide_post fun D hD => ?_
  obtain ⟨b, hb⟩ : ∃ b, b = w.heap.size := ⟨_, rfl⟩
  obtain ⟨v1, l1, b1, e1, hl1, hv1, C1⟩ := getN_is P l bad 4 b 4 rfl (by omega) hl
  obtain ⟨v2, l2, b2, e2, hl2, hv2, C2⟩ := getN_is P l1 b1 1073741824 b 1073741824 rfl (by omega) hl1
  obtain ⟨v3, l3, b3, e3, hl3, hv3, C3⟩ := getN_is P l2 b2 6 b 6 rfl (by omega) hl2
  obtain ⟨v4, l4, b4, e4, hl4, hv4, C4⟩ := getN_is P l3 b3 31 b 31 rfl (by omega) hl3
  obtain ⟨v5, l5, b5, e5, hl5, hv5, C5⟩ := getN_is P l4 b4 100 b 100 rfl (by omega) hl4
  have CT : Hid (∀ W, RdAt W P l5 b5 → Calls Try.prog 69 #[.pointer (some ⟨P, 0, none⟩), .int .i64 64] W fun e w' => e = .returned (.string (str (rdText l5 b5 64).1)) ∧ RdAt w' P (rdText l5 b5 64).2.1 (rdText l5 b5 64).2.2 ∧ Frm (fun k => k = P) W w') := fun W h => textR_any P l5 b5 64 64 W (.inl rfl) h hl5 (by omega)
  have hts : (rdText l5 b5 64).1.length ≤ 64 ∧ (rdText l5 b5 64).2.1.length ≤ l5.length := by
    have h1 := rdNum_len l5 b5 64
    unfold rdText
    split
    · exact ⟨by simp, h1.1⟩
    · split
      · exact ⟨by simp, h1.1⟩
      · refine ⟨?_, ?_⟩
        · simp only [List.length_take]; omega
        · simp only [List.length_drop]; omega
  have HRQ : Hid (∀ t l6 b6, rdText l5 b5 64 = (t, l6, b6) → RdQ 4 1073741824 6 31 100 64 l bad ⟨v1, v2, v3, v4, v5, str t⟩ l6 b6) := fun t l6 b6 h => ⟨l1, b1, l2, b2, l3, b3, l4, b4, l5, b5, e1, e2, e3, e4, e5, by rw [h]; simp [str_toList]⟩
  generalize ht : rdText l5 b5 64 = x at *
  obtain ⟨t, l6, b6⟩ := x
  simp only at CT hts
  have HQ := Lib.hid (HRQ.out t l6 b6 rfl)
  clear HRQ ht e1 e2 e3 e4 e5
  obtain ⟨W0, hW0⟩ : ∃ W0, W0 = (w.alloc (.cells #[.pointer (some ⟨P, 0, none⟩)] 91)).alloc (.cells #[.int .i64 0, .int .i64 0, .int .i64 0, .int .i64 0, .int .i64 0, .string ⟨#[]⟩] 30) := ⟨_, rfl⟩
  have hx0 : Ext w W0 := by rw [hW0]; exact Ext.trans (Ext.alloc _ _) (Ext.alloc _ _)
  have kb : Blk W0 b 91 #[.pointer (some ⟨P, 0, none⟩)] := by rw [hW0, hb]; exact (Blk.new _ _ _).alloc _
  have kr : Blk W0 (b + 1) 30 #[.int .i64 0, .int .i64 0, .int .i64 0, .int .i64 0, .int .i64 0, .string ⟨#[]⟩] := by rw [hW0, hb]; exact Blk.new' _ _ _ _ (by simp)
  have HR0 : Hid (RdAt W0 P l bad) := H.stay hx0
  have hPb : P < b := by rw [hb]; exact H.lt
  have HPB := Lib.hid hPb
  have HX0 := Lib.hid hx0
  have HB := Lib.hid hb
  have HW0 := Lib.hid hW0
  have HKB : Hid (∀ V, Frm (fun k => k = P) W0 V → V.cell? ⟨b, 0, none⟩ = some (.pointer (some ⟨P, 0, none⟩))) := fun V h => (kb.frm h (show ¬ b = P by omega)).cell 0
  have HKR : Hid (∀ V, Frm (fun k => k = P) W0 V → Blk V (b + 1) 30 #[.int .i64 0, .int .i64 0, .int .i64 0, .int .i64 0, .int .i64 0, .string ⟨#[]⟩]) := fun V h => kr.frm h (show ¬ b + 1 = P by omega)
  clear hx0 kb kr hPb hb hW0 H
  go_enter Try.func57, Try.ntmps57
  go_wp2_with (first
    | (go_at_call 68; rw [← HW0.out, ← HB.out]; (with_reducible refine (C1.out _ HR0.out (HKB.out _ (Frm.refl _ _))).mono ?_); rintro e w1 ⟨rfl, hr, hf⟩; have HR1 := Lib.hid hr; have HF1 := Lib.hid hf; clear hr hf C1)
    | (go_at_call 68; (with_reducible refine (C2.out _ HR1.out (HKB.out _ HF1.out)).mono ?_); rintro e w2 ⟨rfl, hr, hf⟩; have HR2 := Lib.hid hr; have HF2 := Lib.hid (Frm.tr HF1.out hf); clear hr hf C2)
    | (go_at_call 68; (with_reducible refine (C3.out _ HR2.out (HKB.out _ HF2.out)).mono ?_); rintro e w3 ⟨rfl, hr, hf⟩; have HR3 := Lib.hid hr; have HF3 := Lib.hid (Frm.tr HF2.out hf); clear hr hf C3)
    | (go_at_call 68; (with_reducible refine (C4.out _ HR3.out (HKB.out _ HF3.out)).mono ?_); rintro e w4 ⟨rfl, hr, hf⟩; have HR4 := Lib.hid hr; have HF4 := Lib.hid (Frm.tr HF3.out hf); clear hr hf C4)
    | (go_at_call 68; (with_reducible refine (C5.out _ HR4.out (HKB.out _ HF4.out)).mono ?_); rintro e w5 ⟨rfl, hr, hf⟩; have HR5 := Lib.hid hr; have HF5 := Lib.hid (Frm.tr HF4.out hf); have o0 : ∀ o, (w5.alloc o).cell? ⟨b, 0, none⟩ = some (.pointer (some ⟨P, 0, none⟩)) := fun o => HKB.out _ (Frm.tr HF5.out (Frm.of_alloc _ _ _)); clear hr hf C5)
    | done)
  obtain ⟨z, hz⟩ : ∃ z, z = w5.heap.size := ⟨_, rfl⟩
  obtain ⟨W6, hW6⟩ : ∃ W6, W6 = w5.alloc (.cells #[.int .i64 v1, .int .i64 v2, .int .i64 v3, .int .i64 v4, .int .i64 v5, .string ⟨#[]⟩] 30) := ⟨_, rfl⟩
  rw [← hW6, ← hz]
  have hx6 : Ext w5 W6 := by rw [hW6]; exact Ext.alloc _ _
  have kq : Blk W6 z 30 #[.int .i64 v1, .int .i64 v2, .int .i64 v3, .int .i64 v4, .int .i64 v5, .string ⟨#[]⟩] := by rw [hW6, hz]; exact Blk.new _ _ _
  have hPz : P < z := by rw [hz]; exact HR5.out.lt
  have hbz : b + 1 < z := by rw [hz]; exact (HKR.out _ HF5.out).lt
  have C6 := Lib.hid (CT.out W6 (HR5.out.stay hx6))
  have HX6 := Lib.hid hx6
  have HKQ := Lib.hid kq
  have HPZ := Lib.hid (And.intro hPz hbz)
  have HZ5 : Hid (w5.heap.size ≤ z) := by (show _ ≤ _); omega
  clear hx6 kq hPz hbz hW6 hz CT o0
  go_at_call 69
  with_reducible refine C6.out.mono ?_
  rintro e w7 ⟨rfl, hr7, hf7⟩
  have kq7 := HKQ.out.frm hf7 (show ¬ z = P by have := HPZ.out.1; omega)
  have kr7 := HKR.out w7 (Frm.tr HF5.out (Frm.tr (Frm.of_below HX6.out _) hf7))
  generalize hs7 : str t = st at *
  have kq8 := kq7.set 5 (.string st)
  have hf8 : Frm (fun k => k = z) w7 (w7.setCell ⟨z, 5, none⟩ (.string st)) := Frm.of_set _ _ _ rfl
  have kr8 := kr7.frm hf8 (show ¬ b + 1 = z by have := HPZ.out.2; omega)
  have f5 := kq7.frozen 5
  have s0 : (w7.setCell ⟨z, 5, none⟩ (.string st)).cell? ⟨z, 0, none⟩ = some (.int .i64 v1) := kq8.cell 0
  have s1 : (w7.setCell ⟨z, 5, none⟩ (.string st)).cell? ⟨z, 1, none⟩ = some (.int .i64 v2) := kq8.cell 1
  have s2 : (w7.setCell ⟨z, 5, none⟩ (.string st)).cell? ⟨z, 2, none⟩ = some (.int .i64 v3) := kq8.cell 2
  have s3 : (w7.setCell ⟨z, 5, none⟩ (.string st)).cell? ⟨z, 3, none⟩ = some (.int .i64 v4) := kq8.cell 3
  have s4 : (w7.setCell ⟨z, 5, none⟩ (.string st)).cell? ⟨z, 4, none⟩ = some (.int .i64 v5) := kq8.cell 4
  have s5 : (w7.setCell ⟨z, 5, none⟩ (.string st)).cell? ⟨z, 5, none⟩ = some (.string st) := kq8.cell 5
  have c5 : w7.cell? ⟨z, 5, none⟩ = some (.string ⟨#[]⟩) := kq7.cell 5
  have g0 : w7.cell? ⟨b + 1, 0, none⟩ = some (.int .i64 0) := kr7.cell 0
  have g1 : w7.cell? ⟨b + 1, 1, none⟩ = some (.int .i64 0) := kr7.cell 1
  have g2 : w7.cell? ⟨b + 1, 2, none⟩ = some (.int .i64 0) := kr7.cell 2
  have g3 : w7.cell? ⟨b + 1, 3, none⟩ = some (.int .i64 0) := kr7.cell 3
  have g4 : w7.cell? ⟨b + 1, 4, none⟩ = some (.int .i64 0) := kr7.cell 4
  have g5 : w7.cell? ⟨b + 1, 5, none⟩ = some (.string ⟨#[]⟩) := kr7.cell 5
  have q0 := kr7.frozen 0
  have q1 := kr7.frozen 1
  have q2 := kr7.frozen 2
  have q3 := kr7.frozen 3
  have q4 := kr7.frozen 4
  have q5 := kr7.frozen 5
  have HR7 := Lib.hid hr7
  have HKQ7 := Lib.hid kq7
  have HKR8 := Lib.hid kr8
  have HF8 := Lib.hid (And.intro hf7 hf8)
  have hne : ¬ z = b + 1 := by have := HPZ.out.2; omega
  have hne2 : ¬ b + 1 = z := by have := HPZ.out.2; omega
  clear kq7 kr7 kq8 kr8 hr7 hf7 hf8
  go_wp2
  have K9 := (((((HKR8.out.set 0 (.int .i64 v1)).set 1 (.int .i64 v2)).set 2 (.int .i64 v3)).set 3 (.int .i64 v4)).set 4 (.int .i64 v5)).set 5 (.string st)
  have hF9 : Frm (fun k => k = b + 1) (w7.setCell ⟨z, 5, none⟩ (.string st)) (((((((w7.setCell ⟨z, 5, none⟩ (.string st)).setCell ⟨b + 1, 0, none⟩ (.int .i64 v1)).setCell ⟨b + 1, 1, none⟩ (.int .i64 v2)).setCell ⟨b + 1, 2, none⟩ (.int .i64 v3)).setCell ⟨b + 1, 3, none⟩ (.int .i64 v4)).setCell ⟨b + 1, 4, none⟩ (.int .i64 v5)).setCell ⟨b + 1, 5, none⟩ (.string st)) :=
    Frm.tr (Frm.of_set _ _ _ rfl) (Frm.tr (Frm.of_set _ _ _ rfl) (Frm.tr (Frm.of_set _ _ _ rfl) (Frm.tr (Frm.of_set _ _ _ rfl) (Frm.tr (Frm.of_set _ _ _ rfl) (Frm.of_set _ _ _ rfl)))))
  have hR9 := (HR7.out.far HKQ7.out (by decide) (fun i n => by
    match i with
    | 0 => simp
    | 1 => simp
    | 2 => simp
    | 3 => simp
    | 4 => simp
    | 5 => simp
    | k + 6 => simp) (show ¬ P = z by have := HPZ.out.1; omega) HF8.out.2).far HKR8.out (by decide) (fun i n => by
    match i with
    | 0 => simp
    | 1 => simp
    | 2 => simp
    | 3 => simp
    | 4 => simp
    | 5 => simp
    | k + 6 => simp) (show ¬ P = b + 1 by have := HPB.out; omega) hF9
  have hFw := Frm.trans (s := fun k => k = P) (Frm.trans (s := fun k => k = P) (Frm.tr (Frm.of_below HX0.out (fun k => k = P)) (Frm.tr HF5.out (Frm.tr (Frm.of_below HX6.out _) HF8.out.1))) HF8.out.2 (fun k hk e => by
    have h1 := HZ5.out
    have h2 := HF5.out.size
    have h3 := HX0.out.size
    omega)) hF9 (fun k hk e => by have := HB.out; omega)
  generalize (((((((w7.setCell ⟨z, 5, none⟩ (.string st)).setCell ⟨b + 1, 0, none⟩ (.int .i64 v1)).setCell ⟨b + 1, 1, none⟩ (.int .i64 v2)).setCell ⟨b + 1, 2, none⟩ (.int .i64 v3)).setCell ⟨b + 1, 3, none⟩ (.int .i64 v4)).setCell ⟨b + 1, 4, none⟩ (.int .i64 v5)).setCell ⟨b + 1, 5, none⟩ (.string st)) = W9 at *
  have k0 : W9.cell? ⟨b + 1, 0, none⟩ = some (.int .i64 v1) := K9.cell 0
  have k1 : W9.cell? ⟨b + 1, 1, none⟩ = some (.int .i64 v2) := K9.cell 1
  have k2 : W9.cell? ⟨b + 1, 2, none⟩ = some (.int .i64 v3) := K9.cell 2
  have k3 : W9.cell? ⟨b + 1, 3, none⟩ = some (.int .i64 v4) := K9.cell 3
  have k4 : W9.cell? ⟨b + 1, 4, none⟩ = some (.int .i64 v5) := K9.cell 4
  have k5 : W9.cell? ⟨b + 1, 5, none⟩ = some (.string st) := K9.cell 5
  have hsz : st.size ≤ 64 := by rw [← hs7, str_size]; exact hts.1
  exact bodyPost_ret (v := .agg #[.int .i64 v1, .int .i64 v2, .int .i64 v3, .int .i64 v4, .int .i64 v5, .string st]) (by simp [results, Try.results57, go_sem, k0, k1, k2, k3, k4, k5]) rfl (hD.out _ _ ⟨⟨v1, v2, v3, v4, v5, st⟩, l6, b6, HQ.out, rfl, hsz, Nat.le_trans hts.2 hl5, hR9, hFw⟩)

end Go.Proofs.Ytdbnaflaobncgaa
