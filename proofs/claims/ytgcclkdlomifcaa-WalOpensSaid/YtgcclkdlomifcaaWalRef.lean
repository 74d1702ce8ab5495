/-
  The document's Read.
-/
import Derived.Test.YtgcclkdlomifcaaWalRead
namespace Go.Proofs.Ytgcclkdlomifcaa
set_option linter.unusedVariables false
set_option linter.unusedSimpArgs false
open Go.RowKit

def strV (x : List UInt8) : Value := .string (str x)
theorem info_str : (Try.prog.info? 9).map (fun i => (i.zero, i.size, i.bytes)) = some (some (.string ⟨#[]⟩), 1, 16) := by kernel_rfl
theorem str_extract2 (l : List UInt8) (a b : Nat) : (str l).extract a b = str ((l.drop a).take (b - a)) := by
  simp [str, ByteArray.ext_iff]

set_option maxRecDepth 100000 in
set_option maxHeartbeats 16000000 in
theorem refRead_any (l : List UInt8) (w : World) (hl : l.length ≤ 1000000) :
    Calls Try.prog 18 #[.string (str l)] w fun e w' => ∃ A' c', e = .returned (.tuple #[.slice A' (readB l).length c', .int .i64 (endOf (framesB l))]) ∧ Sl strV w' A' (readB l) ∧ Ext w w' := by
  refine hide_post fun D hD => ?_
  obtain ⟨s, hs⟩ : ∃ s, s = str l := ⟨_, rfl⟩
  have hsz : s.size = l.length := by rw [hs, str_size]
  have HSL := Lib.hid hs
  have HSZ := Lib.hid hsz
  rw [← hs]
  rw [← hsz] at hl
  have HRF : Hid (∀ (V : World) r, r.length ≤ 4096 → Calls Try.prog 16 #[.string (str r)] V fun e w' => e = .returned (.string (str (frameB r))) ∧ Ext V w') := fun V r h => refFrame_any r V h
  have HEND : Hid (∀ (pre : List (Nat × List UInt8)) (A : Option Addr) (cap : Nat) (V : World) (at_ : Nat), at_ = endOf pre → framesB l = pre → V.ownsRow w.heap.size 9 1 (.slice A pre.length cap) pre.length (pre.map (fun e => strV e.2)) → Ext w V → D (.returned (.tuple #[.slice A pre.length cap, .int .i64 at_])) V) := fun pre A cap V at_ ha hp ho hx => by
    subst hp
    have hrl : (readB l).length = (framesB l).length := by simp [readB]
    refine hD.out _ _ ⟨A, cap, by rw [hrl, ha], ?_, hx⟩
    have ho' : V.ownsRow w.heap.size 9 1 (.slice A (framesB l).length cap) (readB l).length ((readB l).map strV) := by
      rw [hrl]
      simpa [readB, Function.comp_def] using ho
    obtain ⟨A9, c9, e, hs⟩ := own_view ho'
    injection e with e1 e2 e3
    subst e1
    exact hs
  clear hs hsz hD
  obtain ⟨i0, hi, hz0, hz1, hz2⟩ := info_parts info_str
  go_enter Try.func18, Try.ntmps18
  go_wp2
  go_loopw [4, 5] (fun v i wr => ∃ (k f : Nat) (pre : List (Nat × List UInt8)) (A : Option Addr) (cap : Nat), k ≤ s.size ∧ v = .slice A pre.length cap ∧ i = .int .i64 k ∧ Hid (framesB l = pre ++ walkGo f k (l.drop k) ∧ (l.drop k).length ≤ f ∧ pre.length ≤ k ∧ k = endOf pre) ∧ Hid (wr.ownsRow w.heap.size 9 1 (.slice A pre.length cap) pre.length (pre.map (fun e => strV e.2)) ∧ Ext w wr))
    (fun _ i _ => s.size - (intOf i).toNat)
  case atStart => exact ⟨0, l.length, [], none, 0, Nat.zero_le _, rfl, rfl, ⟨rfl, Nat.le_refl _, Nat.le_refl _, rfl⟩, World.ownsRow_nil _ _ _ _, Ext.refl _⟩
  case round =>
    obtain ⟨k, f, pre, A, cap, hk, rfl, rfl, HW, HQ⟩ := hrel
    have HENDk : Hid (stepB (l.drop k) = none → ∀ V, Ext wr V → D (.returned (.tuple #[.slice A pre.length cap, .int .i64 k])) V) := fun h V hV => HEND.out pre A cap V k HW.out.2.2.2 (by rw [HW.out.1, walkGo_none h, List.append_nil]) (own_ext HQ.out.1 hV) (Ext.trans HQ.out.2 hV)
    by_cases h6 : 6 ≤ s.size - k
    · have hk1 : k + 1 < l.length := by have := HSZ.out; omega
      have HNUM := Lib.hid (numAt_drop hk1)
      have hks : k < s.size := by omega
      have hks1 : k + 1 < s.size := by omega
      have hx1 : s[k] = l[k]'(by omega) := by have h := HSL.out; subst h; rfl
      have hx2 : s[k + 1] = l[k + 1] := by have h := HSL.out; subst h; rfl
      generalize l[k]'(by omega) = x at *
      generalize l[k + 1] = y at *
      have hxl := x.toNat_lt
      have hyl := y.toNat_lt
      obtain ⟨m, hm⟩ : ∃ m, m = x.toNat * 256 + y.toNat := ⟨_, rfl⟩
      have hnum : bits BinOp.or IntKind.i64 ((x.toNat : Int) * 256) (y.toNat : Int) = (m : Int) := by rw [hm]; exact num2 x y
      have HNUM : Hid (numAt (l.drop k) = m) := by (show _ = _); rw [hm]; exact HNUM.out
      have hmb : m ≤ 65535 := by omega
      have hw1 : IntKind.i64.wrap (x.toNat : Int) = (x.toNat : Int) := IntWalk.i64_in _ (by omega)
      have hw2 : IntKind.i64.wrap ((x.toNat : Int) * 256) = (x.toNat : Int) * 256 := IntWalk.i64_in _ (by omega)
      have hw3 : IntKind.i64.wrap (y.toNat : Int) = (y.toNat : Int) := IntWalk.i64_in _ (by omega)
      have hk0 : (0 : Int) ≤ (k : Int) := by omega
      have hkN : (k : Int) < (s.size : Int) := by omega
      have hk0' : (0 : Int) ≤ (k : Int) + 1 := by omega
      have hkN' : (k : Int) + 1 < (s.size : Int) := by omega
      have hkt : ((k : Int) + 1).toNat = k + 1 := by omega
      have hkw : IntKind.i64.wrap ((k : Int) + 1) = (k : Int) + 1 := IntWalk.i64_in _ (by omega)
      have E0 : Hid (Frm (fun _ => False) wr wr) := Frm.refl _ _
      have E1 : Hid (Ext wr wr.drew) := Ext.drewR (Ext.refl _)
      have h6i : (6 : Int) ≤ (s.size : Int) - (k : Int) := by omega
      clear hm
      go_wp2
      refine rz_begin (fun _ => False) [] (by kernel_rfl) ?_
      have E0 : Hid (Frm (fun _ => False) wr wr.drew) := Frm.drew E0.out
      refine rz_take [2, 3, 4, 10, 11] (i := 0) (v := ?_) rfl (by kernel_rfl) (by kernel_rfl) (by kernel_rfl) (by kernel_rfl) (by kernel_rfl) (by kernel_rfl) (fun _ _ _ h => h) (by rfl) ?_ ?_
      rotate_left
      · intro W hW; have hW0 := Frm.tr E0.out hW; clear hW; go_simp <;> with_reducible rfl
      try simp only [Act.put, List.setIfInBounds_toArray, List.set_cons_zero, List.set_cons_succ]
      refine rz_take [2, 3, 4, 10, 11] (i := 1) (v := ?_) rfl (by kernel_rfl) (by kernel_rfl) (by kernel_rfl) (by kernel_rfl) (by kernel_rfl) (by kernel_rfl) (fun _ _ _ h => h) (by rfl) ?_ ?_
      rotate_left
      · intro W hW; have hW0 := Frm.tr E0.out hW; clear hW; go_simp <;> with_reducible rfl
      try simp only [Act.put, List.setIfInBounds_toArray, List.set_cons_zero, List.set_cons_succ]
      refine rz_take [3, 4, 10, 11] (i := 2) (v := ?_) rfl (by kernel_rfl) (by kernel_rfl) (by kernel_rfl) (by kernel_rfl) (by kernel_rfl) (by kernel_rfl) (fun _ _ _ h => h) (by rfl) ?_ ?_
      rotate_left
      · intro W hW; have hW0 := Frm.tr E0.out hW; clear hW; go_simp <;> with_reducible rfl
      try simp only [Act.put, List.setIfInBounds_toArray, List.set_cons_zero, List.set_cons_succ]
      refine rz_take [4, 10, 11] (i := 3) (v := ?_) rfl (by kernel_rfl) (by kernel_rfl) (by kernel_rfl) (by kernel_rfl) (by kernel_rfl) (by kernel_rfl) (fun _ _ _ h => h) (by rfl) ?_ ?_
      rotate_left
      · intro W hW; have hW0 := Frm.tr E0.out hW; clear hW; go_simp <;> with_reducible rfl
      try simp only [Act.put, List.setIfInBounds_toArray, List.set_cons_zero, List.set_cons_succ]
      refine rz_take [10, 11] (i := 4) (v := ?_) rfl (by kernel_rfl) (by kernel_rfl) (by kernel_rfl) (by kernel_rfl) (by kernel_rfl) (by kernel_rfl) (fun _ _ _ h => h) (by rfl) ?_ ?_
      rotate_left
      · intro W hW; have hW0 := Frm.tr E0.out hW; clear hW; go_simp <;> with_reducible rfl
      try simp only [Act.put, List.setIfInBounds_toArray, List.set_cons_zero, List.set_cons_succ]
      refine rz_take [8, 9, 10, 11] (i := 5) (v := ?_) rfl (by kernel_rfl) (by kernel_rfl) (by kernel_rfl) (by kernel_rfl) (by kernel_rfl) (by kernel_rfl) (fun _ _ _ h => h) (by rfl) ?_ ?_
      rotate_left
      · intro W hW; have hW0 := Frm.tr E0.out hW; clear hW; go_simp <;> with_reducible rfl
      try simp only [Act.put, List.setIfInBounds_toArray, List.set_cons_zero, List.set_cons_succ]
      refine rz_take [7, 8, 9, 10, 11] (i := 6) (v := ?_) rfl (by kernel_rfl) (by kernel_rfl) (by kernel_rfl) (by kernel_rfl) (by kernel_rfl) (by kernel_rfl) (fun _ _ _ h => h) (by rfl) ?_ ?_
      rotate_left
      · intro W hW; have hW0 := Frm.tr E0.out hW; clear hW; go_simp <;> with_reducible rfl
      try simp only [Act.put, List.setIfInBounds_toArray, List.set_cons_zero, List.set_cons_succ]
      refine rz_take [8, 9, 10, 11] (i := 7) (v := ?_) rfl (by kernel_rfl) (by kernel_rfl) (by kernel_rfl) (by kernel_rfl) (by kernel_rfl) (by kernel_rfl) (fun _ _ _ h => h) (by rfl) ?_ ?_
      rotate_left
      · intro W hW; have hW0 := Frm.tr E0.out hW; clear hW; go_simp <;> with_reducible rfl
      try simp only [Act.put, List.setIfInBounds_toArray, List.set_cons_zero, List.set_cons_succ]
      refine rz_take [9, 10, 11] (i := 8) (v := ?_) rfl (by kernel_rfl) (by kernel_rfl) (by kernel_rfl) (by kernel_rfl) (by kernel_rfl) (by kernel_rfl) (fun _ _ _ h => h) (by rfl) ?_ ?_
      rotate_left
      · intro W hW; have hW0 := Frm.tr E0.out hW; clear hW; go_simp <;> with_reducible rfl
      try simp only [Act.put, List.setIfInBounds_toArray, List.set_cons_zero, List.set_cons_succ]
      refine rz_take [10, 11] (i := 9) (v := ?_) rfl (by kernel_rfl) (by kernel_rfl) (by kernel_rfl) (by kernel_rfl) (by kernel_rfl) (by kernel_rfl) (fun _ _ _ h => h) (by rfl) ?_ ?_
      rotate_left
      · intro W hW; have hW0 := Frm.tr E0.out hW; clear hW; go_simp <;> with_reducible rfl
      try simp only [Act.put, List.setIfInBounds_toArray, List.set_cons_zero, List.set_cons_succ]
      refine rz_take [11] (i := 10) (v := .int .i64 (m : Int)) rfl (by kernel_rfl) (by kernel_rfl) (by kernel_rfl) (by kernel_rfl) (by kernel_rfl) (by kernel_rfl) (fun _ _ _ h => h) (by rfl) ?_ ?_
      · intro W hW; have hW0 := Frm.tr E0.out hW; clear hW; go_simp; all_goals (first | done | (rw [hnum]; done) | (simp [hnum]; done))
      try simp only [Act.put, List.setIfInBounds_toArray, List.set_cons_zero, List.set_cons_succ]
      refine rz_take [] (i := 11) (v := ?_) rfl (by kernel_rfl) (by kernel_rfl) (by kernel_rfl) (by kernel_rfl) (by kernel_rfl) (by kernel_rfl) (fun _ _ _ h => h) (by rfl) ?_ ?_
      rotate_left
      · intro W hW; have hW0 := Frm.tr E0.out hW; clear hW; go_simp <;> with_reducible rfl
      try simp only [Act.put, List.setIfInBounds_toArray, List.set_cons_zero, List.set_cons_succ]
      refine rz_done (by kernel_rfl) ?_ _
      have HDL : Hid ((l.drop k).length = s.size - k) := by (show _ = _); rw [List.length_drop, HSZ.out]
      clear hnum hw1 hw2 hw3 hx1 hx2 E0 hkt hkw hk0' hkN' hxl hyl hks hks1
      by_cases g0 : m < 1
      · have HS : Hid (stepB (l.drop k) = none) := by
          show _ = _
          unfold stepB
          rw [if_neg]
          rintro ⟨_, h2, _⟩
          rw [HNUM.out] at h2
          omega
        go_wp2
        try go_ret2
        exact HENDk.out HS.out _ E1.out
      by_cases g1 : (4096 : Int) < (m : Int)
      · have HS : Hid (stepB (l.drop k) = none) := by
          show _ = _
          unfold stepB
          rw [if_neg]
          rintro ⟨_, _, h3, _⟩
          rw [HNUM.out] at h3
          omega
        have g0' : ¬ (m : Int) < 1 := by omega
        go_wp2
        try go_ret2
        exact HENDk.out HS.out _ E1.out
      by_cases g2 : (s.size : Int) - (k : Int) - 6 < (m : Int)
      · have HS : Hid (stepB (l.drop k) = none) := by
          show _ = _
          unfold stepB
          rw [if_neg]
          rintro ⟨_, _, _, h4, _⟩
          rw [HNUM.out, HDL.out] at h4
          omega
        have g0' : ¬ (m : Int) < 1 := by omega
        go_wp2
        try go_ret2
        exact HENDk.out HS.out _ E1.out
      have hmN : m + 6 ≤ s.size - k := by omega
      obtain ⟨x9, hx9⟩ : ∃ x9, x9 = ((l.drop k).drop 6).take m := ⟨_, rfl⟩
      have hx9l : x9.length = m := by rw [hx9, List.length_take, List.length_drop]; have := HDL.out; omega
      have hex1 : s.extract (k + 6) (k + 6 + m) = str x9 := by rw [HSL.out, str_extract2, hx9, List.drop_drop]; congr 2; omega
      have hex2 : s.extract k (k + 6 + m) = str ((l.drop k).take (m + 6)) := by rw [HSL.out, str_extract2]; congr 2; omega
      have HSB : Hid (stepB (l.drop k) = if frameB x9 = (l.drop k).take (m + 6) then some x9 else none) := by
        show _ = _
        unfold stepB
        rw [HNUM.out, HDL.out, ← hx9]
        by_cases h : frameB x9 = (l.drop k).take (m + 6)
        · rw [if_pos ⟨by omega, by omega, by omega, by omega, h⟩, if_pos h]
        · rw [if_neg (fun h2 => h h2.2.2.2.2), if_neg h]
      have HXL := Lib.hid hx9l
      have HEX1 := Lib.hid hex1
      have HEX2 := Lib.hid hex2
      clear hx9l hx9 hex2
      have HFR : Hid (∀ V, Ext wr V → Calls Try.prog 16 #[.string (str x9)] V fun e w' => e = .returned (.string (str (frameB x9))) ∧ Ext V w') := fun V _ => by
        exact HRF.out V x9 (by have := HXL.out; omega)
      have g0' : ¬ (m : Int) < 1 := by omega
      have k1 : (0 : Int) ≤ (k : Int) + 6 := by omega
      have k2 : (k : Int) + 6 ≤ (k : Int) + 6 + (m : Int) := by omega
      have k3 : (k : Int) + 6 + (m : Int) ≤ (s.size : Int) := by omega
      have k4 : (k : Int) ≤ (k : Int) + 6 + (m : Int) := by omega
      have k5 : IntKind.i64.wrap ((k : Int) + 6) = (k : Int) + 6 := IntWalk.i64_in _ (by omega)
      have k6 : IntKind.i64.wrap ((k : Int) + 6 + (m : Int)) = (k : Int) + 6 + (m : Int) := IntWalk.i64_in _ (by omega)
      have k7 : ((k : Int) + 6 + (m : Int)).toNat = k + 6 + m := by omega
      have k8 : (0 : Int) ≤ (k : Int) + 6 + (m : Int) := by omega
      have hsb := HSB.out
      have E1 : Hid (Ext wr wr.drew) := Ext.drewR (Ext.refl _)
      by_cases heq : frameB x9 = (l.drop k).take (m + 6)
      · rw [if_pos heq] at hsb
        have HSS := Lib.hid hsb
        have hfe : s.extract k (k + 6 + m) = str (frameB x9) := by rw [HEX2.out, heq]
        clear hsb heq HSB
        obtain ⟨f', _, hwg, hfl⟩ := walkGo_some (at_ := k) HSS.out HW.out.2.1
        rw [HXL.out, List.drop_drop] at hwg hfl
        have HWG : Hid (framesB l = (pre ++ [(k + (m + 6), x9)]) ++ walkGo f' (k + (m + 6)) (l.drop (k + (m + 6)))) := by (show _ = _); rw [HW.out.1, hwg]; simp
        have HFL := Lib.hid hfl
        have HPL : Hid (pre.length ≤ k ∧ k ≤ 1000000) := ⟨HW.out.2.2.1, by omega⟩
        clear hwg hfl
        go_wp2
        refine ext_begin (by kernel_rfl) ?_
        have E1d := Lib.hid (Ext.drewR E1.out)
        refine ext_take (i := 0) (v := ?_) rfl (by kernel_rfl) (by kernel_rfl) (by kernel_rfl) (fun _ _ _ h => h) (by rfl) ?_ ?_
        rotate_left
        · intro W hW; have hW0 := Ext.trans E1d.out hW; clear hW; go_simp <;> with_reducible rfl
        try simp only [Act.put, List.setIfInBounds_toArray, List.set_cons_zero, List.set_cons_succ]
        refine ext_take (i := 2) (v := ?_) rfl (by kernel_rfl) (by kernel_rfl) (by kernel_rfl) (fun _ _ _ h => h) (by rfl) ?_ ?_
        rotate_left
        · intro W hW; have hW0 := Ext.trans E1d.out hW; clear hW; go_simp <;> with_reducible rfl
        try simp only [Act.put, List.setIfInBounds_toArray, List.set_cons_zero, List.set_cons_succ]
        refine ext_take (i := 3) (v := ?_) rfl (by kernel_rfl) (by kernel_rfl) (by kernel_rfl) (fun _ _ _ h => h) (by rfl) ?_ ?_
        rotate_left
        · intro W hW; have hW0 := Ext.trans E1d.out hW; clear hW; go_simp <;> with_reducible rfl
        try simp only [Act.put, List.setIfInBounds_toArray, List.set_cons_zero, List.set_cons_succ]
        refine ext_take (i := 4) (v := ?_) rfl (by kernel_rfl) (by kernel_rfl) (by kernel_rfl) (fun _ _ _ h => h) (by rfl) ?_ ?_
        rotate_left
        · intro W hW; have hW0 := Ext.trans E1d.out hW; clear hW; go_simp <;> with_reducible rfl
        try simp only [Act.put, List.setIfInBounds_toArray, List.set_cons_zero, List.set_cons_succ]
        refine ext_take (i := 5) (v := ?_) rfl (by kernel_rfl) (by kernel_rfl) (by kernel_rfl) (fun _ _ _ h => h) (by rfl) ?_ ?_
        rotate_left
        · intro W hW; have hW0 := Ext.trans E1d.out hW; clear hW; go_simp <;> with_reducible rfl
        try simp only [Act.put, List.setIfInBounds_toArray, List.set_cons_zero, List.set_cons_succ]
        refine ext_take (i := 6) (v := ?_) rfl (by kernel_rfl) (by kernel_rfl) (by kernel_rfl) (fun _ _ _ h => h) (by rfl) ?_ ?_
        rotate_left
        · intro W hW; have hW0 := Ext.trans E1d.out hW; clear hW; go_simp <;> with_reducible rfl
        try simp only [Act.put, List.setIfInBounds_toArray, List.set_cons_zero, List.set_cons_succ]
        refine ext_take (i := 7) (v := ?_) rfl (by kernel_rfl) (by kernel_rfl) (by kernel_rfl) (fun _ _ _ h => h) (by rfl) ?_ ?_
        rotate_left
        · intro W hW; have hW0 := Ext.trans E1d.out hW; clear hW; go_simp <;> with_reducible rfl
        try simp only [Act.put, List.setIfInBounds_toArray, List.set_cons_zero, List.set_cons_succ]
        refine ext_take (i := 8) (v := .string (s.extract k (k + 6 + m))) rfl (by kernel_rfl) (by kernel_rfl) (by kernel_rfl) (fun _ _ _ h => h) (by rfl) ?_ ?_
        · intro W hW; have hW0 := Ext.trans E1d.out hW; clear hW; go_simp; all_goals (first | done | (intro h; omega))
        try simp only [Act.put, List.setIfInBounds_toArray, List.set_cons_zero, List.set_cons_succ]
        refine ext_call (i := 1) rfl (by kernel_rfl) (by rfl) (fun K' hK => ?_)
        go_simp
        (go_at_call 16; (with_reducible refine (HFR.out _ E1d.out).mono ?_); rintro e w5 ⟨rfl, hx⟩; refine hK _ _ hx ?_; clear hK)
        have Ew5 := Lib.hid (Ext.trans E1d.out hx)
        clear hx
        try simp only [Act.put, List.setIfInBounds_toArray, List.set_cons_zero, List.set_cons_succ]
        refine ext_take (i := 9) (v := .bool false) rfl (by kernel_rfl) (by kernel_rfl) (by kernel_rfl) (fun _ _ _ h => h) (by rfl) ?_ ?_
        · intro W hW; have hW0 := Ext.trans Ew5.out hW; clear hW; go_simp; all_goals (first | done | (simp; done) | (rw [hfe]; simp; done))
        try simp only [Act.put, List.setIfInBounds_toArray, List.set_cons_zero, List.set_cons_succ]
        refine wpAnyH_done (by kernel_rfl) ?_ _
        have HC1 := Lib.hid ((Blk.new w5 9 #[strV x9]).cell 0)
        have HO := Lib.hid (own_ext HQ.out.1 Ew5.out)
        have HXW := Lib.hid (Ext.trans HQ.out.2 Ew5.out)
        clear hfe k1 k2 k3 k4 k7 HFR
        generalize hq : pre.map (fun e => strV e.2) = L at *
        have HLL := Lib.hid hq
        clear hq
        go_wp2_with (at_builtin; refine wpList_append_one rfl _ _ 30 rfl w.heap.size 9 (.string ⟨#[]⟩) 16 Try.underlying30 info_str rfl (by omega) (.slice A pre.length cap) pre.length L rfl (HO.out.alloc _) w5.heap.size (strV x9) rfl HC1.out rfl (by have := HPL.out; omega) (by have := HXW.out.size; simp; omega) ?_; intro v' w' hown' hg'; obtain ⟨A', cap', rfl⟩ := own_shape hown'; have HO2 := Lib.hid hown'; have HX2 : Hid (Ext w w') := Below.grown (Ext.trans HXW.out (Ext.alloc _ _)) hg' (by have := HXW.out.size; simp; omega) (fun k hk => (HO.out.lt k hk).1); clear hown' hg')
        go_roundw
        case rel => exact ⟨k + (m + 6), f', pre ++ [(k + (m + 6), x9)], A', cap', by omega, by simp, by go_num, ⟨HWG.out, HFL.out, by have := HPL.out; simp; omega, (endOf_snoc pre (k + (m + 6), x9)).symm⟩, by have := HO2.out; rw [← HLL.out] at this; simpa using this, HX2.out⟩
        case measure => simp [intOf]; omega
      · rw [if_neg heq] at hsb
        have HSS := Lib.hid hsb
        have hne : ¬ str (frameB x9) = s.extract k (k + 6 + m) := by
          rw [HEX2.out]
          intro h
          exact heq (str_inj h)
        have hne2 : ¬ (str (frameB x9)).toList = (s.extract k (k + 6 + m)).toList := fun h => hne (Go.WideShapes.bytes_inj (by rwa [ByteArray.toList_eq, ByteArray.toList_eq] at h))
        clear hsb heq HSB
        go_wp2
        refine ext_begin (by kernel_rfl) ?_
        have E1d := Lib.hid (Ext.drewR E1.out)
        refine ext_take (i := 0) (v := ?_) rfl (by kernel_rfl) (by kernel_rfl) (by kernel_rfl) (fun _ _ _ h => h) (by rfl) ?_ ?_
        rotate_left
        · intro W hW; have hW0 := Ext.trans E1d.out hW; clear hW; go_simp <;> with_reducible rfl
        try simp only [Act.put, List.setIfInBounds_toArray, List.set_cons_zero, List.set_cons_succ]
        refine ext_take (i := 2) (v := ?_) rfl (by kernel_rfl) (by kernel_rfl) (by kernel_rfl) (fun _ _ _ h => h) (by rfl) ?_ ?_
        rotate_left
        · intro W hW; have hW0 := Ext.trans E1d.out hW; clear hW; go_simp <;> with_reducible rfl
        try simp only [Act.put, List.setIfInBounds_toArray, List.set_cons_zero, List.set_cons_succ]
        refine ext_take (i := 3) (v := ?_) rfl (by kernel_rfl) (by kernel_rfl) (by kernel_rfl) (fun _ _ _ h => h) (by rfl) ?_ ?_
        rotate_left
        · intro W hW; have hW0 := Ext.trans E1d.out hW; clear hW; go_simp <;> with_reducible rfl
        try simp only [Act.put, List.setIfInBounds_toArray, List.set_cons_zero, List.set_cons_succ]
        refine ext_take (i := 4) (v := ?_) rfl (by kernel_rfl) (by kernel_rfl) (by kernel_rfl) (fun _ _ _ h => h) (by rfl) ?_ ?_
        rotate_left
        · intro W hW; have hW0 := Ext.trans E1d.out hW; clear hW; go_simp <;> with_reducible rfl
        try simp only [Act.put, List.setIfInBounds_toArray, List.set_cons_zero, List.set_cons_succ]
        refine ext_take (i := 5) (v := ?_) rfl (by kernel_rfl) (by kernel_rfl) (by kernel_rfl) (fun _ _ _ h => h) (by rfl) ?_ ?_
        rotate_left
        · intro W hW; have hW0 := Ext.trans E1d.out hW; clear hW; go_simp <;> with_reducible rfl
        try simp only [Act.put, List.setIfInBounds_toArray, List.set_cons_zero, List.set_cons_succ]
        refine ext_take (i := 6) (v := ?_) rfl (by kernel_rfl) (by kernel_rfl) (by kernel_rfl) (fun _ _ _ h => h) (by rfl) ?_ ?_
        rotate_left
        · intro W hW; have hW0 := Ext.trans E1d.out hW; clear hW; go_simp <;> with_reducible rfl
        try simp only [Act.put, List.setIfInBounds_toArray, List.set_cons_zero, List.set_cons_succ]
        refine ext_take (i := 7) (v := ?_) rfl (by kernel_rfl) (by kernel_rfl) (by kernel_rfl) (fun _ _ _ h => h) (by rfl) ?_ ?_
        rotate_left
        · intro W hW; have hW0 := Ext.trans E1d.out hW; clear hW; go_simp <;> with_reducible rfl
        try simp only [Act.put, List.setIfInBounds_toArray, List.set_cons_zero, List.set_cons_succ]
        refine ext_take (i := 8) (v := .string (s.extract k (k + 6 + m))) rfl (by kernel_rfl) (by kernel_rfl) (by kernel_rfl) (fun _ _ _ h => h) (by rfl) ?_ ?_
        · intro W hW; have hW0 := Ext.trans E1d.out hW; clear hW; go_simp; all_goals (first | done | (intro h; omega))
        try simp only [Act.put, List.setIfInBounds_toArray, List.set_cons_zero, List.set_cons_succ]
        refine ext_call (i := 1) rfl (by kernel_rfl) (by rfl) (fun K' hK => ?_)
        go_simp
        (go_at_call 16; (with_reducible refine (HFR.out _ E1d.out).mono ?_); rintro e w5 ⟨rfl, hx⟩; refine hK _ _ hx ?_; clear hK)
        have Ew5 := Lib.hid (Ext.trans E1d.out hx)
        clear hx
        try simp only [Act.put, List.setIfInBounds_toArray, List.set_cons_zero, List.set_cons_succ]
        refine ext_take (i := 9) (v := .bool true) rfl (by kernel_rfl) (by kernel_rfl) (by kernel_rfl) (fun _ _ _ h => h) (by rfl) ?_ ?_
        · intro W hW; have hW0 := Ext.trans Ew5.out hW; clear hW; go_simp; all_goals (first | done | (simp; done) | simpa using hne2)
        try simp only [Act.put, List.setIfInBounds_toArray, List.set_cons_zero, List.set_cons_succ]
        refine wpAnyH_done (by kernel_rfl) ?_ _
        go_wp2
        try go_ret2
        exact HENDk.out HSS.out _ Ew5.out
    · have HS : Hid (stepB (l.drop k) = none) := by
        show _ = _
        unfold stepB
        rw [if_neg]
        rintro ⟨h1, _⟩
        rw [List.length_drop] at h1
        have := HSZ.out
        omega
      have h6i : ¬ (6 : Int) ≤ (s.size : Int) - (k : Int) := by omega
      go_wp2
      try go_ret2
      exact HENDk.out HS.out _ (Ext.refl _)
end Go.Proofs.Ytgcclkdlomifcaa
