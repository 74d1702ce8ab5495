/-
  The iterator of package wal: the records of whole right frames, and where each ends.
-/
import Derived.Test.YtgcclkdlomifcaaWalLaw
import Derived.Test.YtgcclkdlomifcaaHeldZIn
import Derived.RangeFuncNested
import Derived.RangeFuncBound
import Derived.RangeFuncCalls
import Derived.RangeFuncLeaves
import Derived.Shelf.Abstract
import Derived.Shelf.RegionOpen
import Derived.OwnWalkIn
import Derived.TacticsInMore
import Derived.LoopNIn
import Derived.LoopIn
namespace Go.Proofs.Ytgcclkdlomifcaa
set_option linter.unusedVariables false
set_option linter.unusedSimpArgs false
open Go.RowKit Go.Shelf
attribute [local go_sem] Oper.semAt_some

theorem below_of_frm' {w w' : World} (h : Frm (fun _ => False) w w') : Below w.heap.size w w' := h.below (Nat.le_refl _) (fun _ h => h.elim)
/-- what is handed to the loop: where the record ends; the record, in the bytes that came in -/
def Fr (l : List UInt8) : Type := { e : Nat × List UInt8 // e.2.length ≤ e.1 ∧ (l.drop (e.1 - e.2.length)).take e.2.length = e.2 }
def encF (l : List UInt8) (b o cap : Nat) (e : Fr l) : Array Value := #[.int .i64 e.1.1, .slice (some ⟨b, o + (e.1.1 - e.1.2.length), none⟩) e.1.2.length (cap - (e.1.1 - e.1.2.length))]

set_option maxRecDepth 100000 in
set_option maxHeartbeats 8000000 in
theorem frames_in (n : Nat) (hn : 2 ≤ n) (s : Nat → Prop) (y Bb bk o : Nat) (A : Option Addr) (cap : Nat) (l : List UInt8) (hl : l.length ≤ 1000000000) (hcap : l.length ≤ cap) (hc63 : cap ≤ 9223372036854775807) (J Jx : List (Fr l) → World → Prop) (W : World)
    (HAE : Hid (l ≠ [] → A = some ⟨bk, o, none⟩)) (HC : Hid (∀ W', Frm s W W' → W'.cell? ⟨Bb, 0, none⟩ = some (.slice A l.length cap))) (HA : Hid (∀ W', Frm s W W' → Sl Go.Proofs.Ytgcclkdlomifcaa.u8 W' A l))
    (HJ : Hid (∀ pre V V', J pre V → Below V.heap.size V V' → J pre V'))
    (hY : Hid (∀ pre x W, J pre W → pre.length < l.length → YieldAt Fence.wide (n - 1) Try.prog y (encF l bk o cap x) W fun e W' =>
      (e = .returned (.bool true) ∧ J (pre ++ [x]) W' ∧ Frm s W W') ∨ (e = .returned (.bool false) ∧ Jx (pre ++ [x]) W')))
    (h0 : J [] W) :
    CallsIn Fence.wide n Try.prog 79 #[.func (.yield y) #[] #[], .pointer (some ⟨Bb, 0, none⟩)] W fun e W' => (∃ v, e = .returned v) ∧
      ((∃ ys, ys.map (·.1) = framesB l ∧ J ys W') ∨ (∃ pre, pre.map (·.1) <+: framesB l ∧ Jx pre W')) := by
  have hn1 : 1 ≤ n := by omega
  obtain ⟨N, hN⟩ : ∃ N, N = l.length := ⟨_, rfl⟩
  have HN := Lib.hid hN
  rw [← hN] at hl hcap
  have HC' : Hid (∀ W', Frm s W W' → W'.cell? ⟨Bb, 0, none⟩ = some (.slice A N cap)) := fun W' h => by rw [hN]; exact HC.out W' h
  have HJ0 := Lib.hid h0
  clear hN h0 HC
  refine callsIn_of_wp Try.func79 rfl trivial ?_ rfl
  simp only [Try.ntmps79, List.size_toArray, List.length_cons, List.length_nil, Nat.reduceAdd, Nat.reduceSub, Array.replicate_succ, Array.replicate_zero, List.push_toArray, List.append_toArray, List.nil_append, List.cons_append]
  gi_wp2
  gi_loopw [3] (fun i wr => ∃ (k f : Nat) (pre : List (Fr l)), k ≤ N ∧ i = .int .i64 k ∧ Hid (framesB l = pre.map (·.1) ++ walkGo f k (l.drop k) ∧ (l.drop k).length ≤ f ∧ pre.length ≤ k) ∧ Hid (J pre wr) ∧ Hid (Frm s W wr))
    (fun i _ => N - (intOf i).toNat)
  case atStart => exact ⟨0, l.length, [], Nat.zero_le _, rfl, ⟨rfl, Nat.le_refl _, Nat.le_refl _⟩, HJ0.out, Frm.refl _ _⟩
  case round =>
    obtain ⟨k, f, pre, hk, rfl, HW, HJs, HF⟩ := hrel
    have c0 := HC'.out wr HF.out
    have HEND : Hid (stepB (l.drop k) = none → pre.map (·.1) = framesB l) := fun h => by rw [HW.out.1, walkGo_none h, List.append_nil]
    by_cases h6 : 6 < N - k
    · have hk1 : k + 1 < l.length := by have := HN.out; omega
      obtain rfl : A = some ⟨bk, o, none⟩ := HAE.out (by intro e; rw [e] at hk1; simp at hk1)
      have HNUM := Lib.hid (numAt_drop hk1)
      have hx1 := (HA.out wr HF.out).at_ (k := k) (by omega)
      have hx2 := (HA.out wr HF.out).at_ (k := k + 1) hk1
      obtain ⟨b1, o1, e1, cx⟩ := hx1
      obtain ⟨b2, o2, e2, cy⟩ := hx2
      injection e1 with e1; injection e1 with e1 e1b
      injection e2 with e2; injection e2 with e2 e2b
      subst e1 e1b e2 e2b
      generalize l[k]'(by omega) = x at *
      generalize l[k + 1] = y at *
      unfold Go.Proofs.Ytgcclkdlomifcaa.u8 at cx cy
      have hxl := x.toNat_lt
      have hyl := y.toNat_lt
      obtain ⟨m, hm⟩ : ∃ m, m = x.toNat * 256 + y.toNat := ⟨_, rfl⟩
      have hnum : bits BinOp.or IntKind.i64 ((x.toNat : Int) * 256) (y.toNat : Int) = (m : Int) := by rw [hm]; exact num2 x y
      have HNUM : Hid (numAt (l.drop k) = m) := by (show _ = _); rw [hm]; exact HNUM.out
      have hmb : m ≤ 65535 := by omega
      clear hm
      have hw1 : IntKind.i64.wrap (x.toNat : Int) = (x.toNat : Int) := IntWalk.i64_in _ (by omega)
      have hw2 : IntKind.i64.wrap ((x.toNat : Int) * 256) = (x.toNat : Int) * 256 := IntWalk.i64_in _ (by omega)
      have hw3 : IntKind.i64.wrap (y.toNat : Int) = (y.toNat : Int) := IntWalk.i64_in _ (by omega)
      have fz0 : ∀ V, Frm (fun _ => False) wr V → V.cell? ⟨Bb, 0, none⟩ = some (.slice (some ⟨bk, o, none⟩) N cap) := fun V h => cell_stay (below_of_frm' h) c0
      have fz1 : ∀ V, Frm (fun _ => False) wr V → V.cell? ⟨bk, o + k, none⟩ = some (.int .u8 x.toNat) := fun V h => cell_stay (below_of_frm' h) cx
      have fz2 : ∀ V, Frm (fun _ => False) wr V → V.cell? ⟨bk, o + (k + 1), none⟩ = some (.int .u8 y.toNat) := fun V h => cell_stay (below_of_frm' h) cy
      have hk0 : (0 : Int) ≤ (k : Int) := by omega
      have hkN : (k : Int) < (N : Int) := by omega
      have hk0' : (0 : Int) ≤ (k : Int) + 1 := by omega
      have hkN' : (k : Int) + 1 < (N : Int) := by omega
      have hkt : ((k : Int) + 1).toNat = k + 1 := by omega
      have hkw : IntKind.i64.wrap ((k : Int) + 1) = (k : Int) + 1 := IntWalk.i64_in _ (by omega)
      have E0 : Hid (Frm (fun _ => False) wr wr) := Frm.refl _ _
      have h6i : (6 : Int) < (N : Int) - (k : Int) := by omega
      have HJd : Hid (J pre wr.drew) := HJ.out _ _ _ HJs.out ((Below.refl _ _).drew)
      gi_wp2
      refine ri_begin (fun _ => False) [] (by kernel_rfl) ?_
      have E0 : Hid (Frm (fun _ => False) wr wr.drew) := Frm.drew E0.out
      refine ri_take [2, 3, 4, 5, 12, 13] (i := 0) (v := ?_) rfl (by kernel_rfl) (by kernel_rfl) (by kernel_rfl) (by kernel_rfl) (by kernel_rfl) (by kernel_rfl) (by kernel_rfl) (fun _ _ _ h => h) (by rfl) (fun _ => rfl) ?_ ?_
      rotate_left
      · intro W hW; have hW0 := Frm.tr E0.out hW; clear hW; go_simp <;> with_reducible rfl
      try simp only [Act.put, List.setIfInBounds_toArray, List.set_cons_zero, List.set_cons_succ]
      refine ri_take [2, 3, 4, 5, 12, 13] (i := 1) (v := ?_) rfl (by kernel_rfl) (by kernel_rfl) (by kernel_rfl) (by kernel_rfl) (by kernel_rfl) (by kernel_rfl) (by kernel_rfl) (fun _ _ _ h => h) (by rfl) (fun _ => rfl) ?_ ?_
      rotate_left
      · intro W hW; have hW0 := Frm.tr E0.out hW; clear hW; go_simp <;> with_reducible rfl
      try simp only [Act.put, List.setIfInBounds_toArray, List.set_cons_zero, List.set_cons_succ]
      refine ri_take [3, 4, 5, 12, 13] (i := 2) (v := ?_) rfl (by kernel_rfl) (by kernel_rfl) (by kernel_rfl) (by kernel_rfl) (by kernel_rfl) (by kernel_rfl) (by kernel_rfl) (fun _ _ _ h => h) (by rfl) (fun _ => rfl) ?_ ?_
      rotate_left
      · intro W hW; have hW0 := Frm.tr E0.out hW; clear hW; go_simp <;> with_reducible rfl
      try simp only [Act.put, List.setIfInBounds_toArray, List.set_cons_zero, List.set_cons_succ]
      refine ri_take [4, 5, 12, 13] (i := 3) (v := ?_) rfl (by kernel_rfl) (by kernel_rfl) (by kernel_rfl) (by kernel_rfl) (by kernel_rfl) (by kernel_rfl) (by kernel_rfl) (fun _ _ _ h => h) (by rfl) (fun _ => rfl) ?_ ?_
      rotate_left
      · intro W hW; have hW0 := Frm.tr E0.out hW; clear hW; go_simp <;> with_reducible rfl
      try simp only [Act.put, List.setIfInBounds_toArray, List.set_cons_zero, List.set_cons_succ]
      refine ri_take [5, 12, 13] (i := 4) (v := ?_) rfl (by kernel_rfl) (by kernel_rfl) (by kernel_rfl) (by kernel_rfl) (by kernel_rfl) (by kernel_rfl) (by kernel_rfl) (fun _ _ _ h => h) (by rfl) (fun _ => rfl) ?_ ?_
      rotate_left
      · intro W hW; have hW0 := Frm.tr E0.out hW; clear hW; go_simp <;> with_reducible rfl
      try simp only [Act.put, List.setIfInBounds_toArray, List.set_cons_zero, List.set_cons_succ]
      refine ri_take [12, 13] (i := 5) (v := ?_) rfl (by kernel_rfl) (by kernel_rfl) (by kernel_rfl) (by kernel_rfl) (by kernel_rfl) (by kernel_rfl) (by kernel_rfl) (fun _ _ _ h => h) (by rfl) (fun _ => rfl) ?_ ?_
      rotate_left
      · intro W hW; have hW0 := Frm.tr E0.out hW; clear hW; go_simp <;> with_reducible rfl
      try simp only [Act.put, List.setIfInBounds_toArray, List.set_cons_zero, List.set_cons_succ]
      refine ri_take [9, 10, 11, 12, 13] (i := 6) (v := ?_) rfl (by kernel_rfl) (by kernel_rfl) (by kernel_rfl) (by kernel_rfl) (by kernel_rfl) (by kernel_rfl) (by kernel_rfl) (fun _ _ _ h => h) (by rfl) (fun _ => rfl) ?_ ?_
      rotate_left
      · intro W hW; have hW0 := Frm.tr E0.out hW; clear hW; go_simp <;> with_reducible rfl
      try simp only [Act.put, List.setIfInBounds_toArray, List.set_cons_zero, List.set_cons_succ]
      refine ri_take [8, 9, 10, 11, 12, 13] (i := 7) (v := ?_) rfl (by kernel_rfl) (by kernel_rfl) (by kernel_rfl) (by kernel_rfl) (by kernel_rfl) (by kernel_rfl) (by kernel_rfl) (fun _ _ _ h => h) (by rfl) (fun _ => rfl) ?_ ?_
      rotate_left
      · intro W hW; have hW0 := Frm.tr E0.out hW; clear hW; go_simp <;> with_reducible rfl
      try simp only [Act.put, List.setIfInBounds_toArray, List.set_cons_zero, List.set_cons_succ]
      refine ri_take [9, 10, 11, 12, 13] (i := 8) (v := ?_) rfl (by kernel_rfl) (by kernel_rfl) (by kernel_rfl) (by kernel_rfl) (by kernel_rfl) (by kernel_rfl) (by kernel_rfl) (fun _ _ _ h => h) (by rfl) (fun _ => rfl) ?_ ?_
      rotate_left
      · intro W hW; have hW0 := Frm.tr E0.out hW; clear hW; go_simp <;> with_reducible rfl
      try simp only [Act.put, List.setIfInBounds_toArray, List.set_cons_zero, List.set_cons_succ]
      refine ri_take [10, 11, 12, 13] (i := 9) (v := ?_) rfl (by kernel_rfl) (by kernel_rfl) (by kernel_rfl) (by kernel_rfl) (by kernel_rfl) (by kernel_rfl) (by kernel_rfl) (fun _ _ _ h => h) (by rfl) (fun _ => rfl) ?_ ?_
      rotate_left
      · intro W hW; have hW0 := Frm.tr E0.out hW; clear hW; go_simp <;> with_reducible rfl
      try simp only [Act.put, List.setIfInBounds_toArray, List.set_cons_zero, List.set_cons_succ]
      refine ri_take [11, 12, 13] (i := 10) (v := ?_) rfl (by kernel_rfl) (by kernel_rfl) (by kernel_rfl) (by kernel_rfl) (by kernel_rfl) (by kernel_rfl) (by kernel_rfl) (fun _ _ _ h => h) (by rfl) (fun _ => rfl) ?_ ?_
      rotate_left
      · intro W hW; have hW0 := Frm.tr E0.out hW; clear hW; go_simp <;> with_reducible rfl
      try simp only [Act.put, List.setIfInBounds_toArray, List.set_cons_zero, List.set_cons_succ]
      refine ri_take [12, 13] (i := 11) (v := ?_) rfl (by kernel_rfl) (by kernel_rfl) (by kernel_rfl) (by kernel_rfl) (by kernel_rfl) (by kernel_rfl) (by kernel_rfl) (fun _ _ _ h => h) (by rfl) (fun _ => rfl) ?_ ?_
      rotate_left
      · intro W hW; have hW0 := Frm.tr E0.out hW; clear hW; go_simp <;> with_reducible rfl
      try simp only [Act.put, List.setIfInBounds_toArray, List.set_cons_zero, List.set_cons_succ]
      refine ri_take [13] (i := 12) (v := .int .i64 (m : Int)) rfl (by kernel_rfl) (by kernel_rfl) (by kernel_rfl) (by kernel_rfl) (by kernel_rfl) (by kernel_rfl) (by kernel_rfl) (fun _ _ _ h => h) (by rfl) (fun _ => rfl) ?_ ?_
      · intro W hW; have hW0 := Frm.tr E0.out hW; clear hW; go_simp; all_goals (first | done | (rw [hnum]; done) | (simp [hnum]; done))
      try simp only [Act.put, List.setIfInBounds_toArray, List.set_cons_zero, List.set_cons_succ]
      refine ri_take [] (i := 13) (v := ?_) rfl (by kernel_rfl) (by kernel_rfl) (by kernel_rfl) (by kernel_rfl) (by kernel_rfl) (by kernel_rfl) (by kernel_rfl) (fun _ _ _ h => h) (by rfl) (fun _ => rfl) ?_ ?_
      rotate_left
      · intro W hW; have hW0 := Frm.tr E0.out hW; clear hW; go_simp <;> with_reducible rfl
      try simp only [Act.put, List.setIfInBounds_toArray, List.set_cons_zero, List.set_cons_succ]
      refine ri_done (by kernel_rfl) ?_ _
      clear fz0 fz1 fz2 hnum hw1 hw2 hw3 cx cy E0 hkt hkw hk0' hkN'
      clear hxl hyl
      have c0d : ∀ V, Below wr.heap.size wr V → V.cell? ⟨Bb, 0, none⟩ = some (.slice (some ⟨bk, o, none⟩) N cap) := fun V h => HC'.out V (Frm.tr HF.out (Frm.of_below h _))
      have HDL : Hid ((l.drop k).length = N - k) := by (show _ = _); rw [List.length_drop, HN.out]
      by_cases g1 : (4096 : Int) < (m : Int)
      · have HS : Hid (stepB (l.drop k) = none) := by
          show _ = _
          unfold stepB
          rw [if_neg]
          rintro ⟨_, _, h3, _⟩
          rw [HNUM.out] at h3
          omega
        gi_wp2
        refine bodyPost_ret (results_none rfl _ _ _) rfl ?_
        exact ⟨⟨_, rfl⟩, .inl ⟨_, HEND.out HS.out, HJd.out⟩⟩
      by_cases g2 : (N : Int) - (k : Int) - 6 < (m : Int)
      · have HS : Hid (stepB (l.drop k) = none) := by
          show _ = _
          unfold stepB
          rw [if_neg]
          rintro ⟨_, _, _, h4, _⟩
          rw [HNUM.out, HDL.out] at h4
          omega
        gi_wp2
        refine bodyPost_ret (results_none rfl _ _ _) rfl ?_
        exact ⟨⟨_, rfl⟩, .inl ⟨_, HEND.out HS.out, HJd.out⟩⟩
      have hmN : m + 6 ≤ N - k := by omega
      obtain ⟨x9, hx9⟩ : ∃ x9, x9 = ((l.drop k).drop 6).take m := ⟨_, rfl⟩
      have HX9 := Lib.hid hx9
      have hx9l : x9.length = m := by rw [hx9, List.length_take, List.length_drop]; have := HDL.out; omega
      have hs9 : Sl Go.Proofs.Ytgcclkdlomifcaa.u8 wr.drew (some ⟨bk, o + (k + 6), none⟩) x9 := by
        have h1 := (sl_drop (HA.out _ (Frm.drew HF.out)) (k + 6)).take' m
        rw [hx9, List.drop_drop]
        exact h1
      have HSB : Hid (1 ≤ m → stepB (l.drop k) = if frameB x9 = (l.drop k).take (m + 6) then some x9 else none) := fun h1 => by
        unfold stepB
        rw [HNUM.out, HDL.out, ← hx9]
        by_cases h : frameB x9 = (l.drop k).take (m + 6)
        · rw [if_pos ⟨by omega, h1, by omega, by omega, h⟩, if_pos h]
        · rw [if_neg (fun h2 => h h2.2.2.2.2), if_neg h]
      have HSX := Lib.hid hs9
      have HXL := Lib.hid hx9l
      clear hs9 hx9l hx9
      by_cases hm1 : m < 1
      · have CF : Hid (Calls Try.prog 15 #[.slice (some ⟨bk, o + (k + 6), none⟩) m (cap - (k + 6))] wr.drew fun e w' => e = .returned (.tuple #[.slice none 0 0, .int .i64 1]) ∧ wr.drew = w') := frame_no _ _ m wr.drew (by omega) (.inl hm1)
        have HS : Hid (stepB (l.drop k) = none) := by
          show _ = _
          unfold stepB
          rw [if_neg]
          rintro ⟨_, h2, _⟩
          rw [HNUM.out] at h2
          omega
        clear HSB
        gi_wp2
        refine ⟨trivial, ?_⟩
        gi_at_call 15
        refine (callsIn_wide.2 CF.out).mono ?_
        rintro e w' ⟨rfl, rfl⟩
        gi_wp2
        refine ⟨trivial, ?_⟩
        gi_wp2
        refine bodyPost_ret (results_none rfl _ _ _) rfl ?_
        exact ⟨⟨_, rfl⟩, .inl ⟨_, HEND.out HS.out, HJd.out⟩⟩
      have CF : Hid (Calls Try.prog 15 #[.slice (some ⟨bk, o + (k + 6), none⟩) m (cap - (k + 6))] wr.drew fun e w' => ∃ A' c', e = .returned (.tuple #[.slice A' (m + 6) c', .int .i64 0]) ∧ w'.ownsRow wr.drew.heap.size 5 1 (.slice A' (m + 6) c') (m + 6) ((frameB x9).map Go.Proofs.Ytgcclkdlomifcaa.u8) ∧ Ext wr.drew w') := by
        have := frame_yes (some ⟨bk, o + (k + 6), none⟩) (cap - (k + 6)) x9 wr.drew HSX.out (by have := HXL.out; omega) (by have := HXL.out; omega)
        rw [HXL.out] at this
        exact this
      have HSB := Lib.hid (HSB.out (by omega))
      have hk0 : (0 : Int) ≤ (k : Int) := by omega
      have CE : Hid (∀ V A' c', V.ownsRow wr.drew.heap.size 5 1 (.slice A' (m + 6) c') (m + 6) ((frameB x9).map Go.Proofs.Ytgcclkdlomifcaa.u8) → Below wr.heap.size wr V → Calls Try.prog 80 #[.slice A' (m + 6) c', .slice (some ⟨bk, o + k, none⟩) (m + 6) (cap - k)] V fun e w' => e = .returned (.bool (decide (frameB x9 = (l.drop k).take (m + 6)))) ∧ Ext V w') := fun V A' c' ho hV => by
        have hfl : (frameB x9).length = m + 6 := by rw [frameB_len, HXL.out]
        have hs1 : Sl Go.Proofs.Ytgcclkdlomifcaa.u8 V A' (frameB x9) := by
          obtain ⟨A9, c9, e, hs⟩ := own_view (l := frameB x9) (by rw [hfl]; exact ho)
          injection e with e1 e2 e3
          subst e1
          exact hs
        have hs2 : Sl Go.Proofs.Ytgcclkdlomifcaa.u8 V (some ⟨bk, o + k, none⟩) ((l.drop k).take (m + 6)) := (sl_drop (HA.out _ (Frm.tr HF.out (Frm.of_below hV _))) k).take' (m + 6)
        have hl2 : ((l.drop k).take (m + 6)).length = m + 6 := by rw [List.length_take]; have := HDL.out; omega
        have := equalB_any A' (some ⟨bk, o + k, none⟩) c' (cap - k) (frameB x9) ((l.drop k).take (m + 6)) V (by omega) (by omega) hs1 hs2
        rw [hfl, hl2] at this
        exact this
      gi_wp2
      refine ⟨trivial, ?_⟩
      gi_at_call 15
      refine (callsIn_wide.2 CF.out).mono ?_
      rintro e w1 ⟨A', c', rfl, ho, hx⟩
      have HO := Lib.hid ho
      have B1 : Hid (Below wr.heap.size wr w1) := Ext.trans (Ext.drewR (Ext.refl wr)) hx
      have c1 := c0d w1 B1.out
      clear ho hx
      gi_wp2
      refine ⟨trivial, ?_⟩
      gi_at_call 80
      refine (callsIn_wide.2 (CE.out w1 A' c' HO.out B1.out)).mono ?_
      rintro e w2 ⟨rfl, hx⟩
      have B2 : Hid (Below wr.heap.size wr w2) := Below.step B1.out hx
      have c2 := c0d w2 B2.out
      have HJ2 : Hid (J pre w2) := HJ.out _ _ _ HJs.out B2.out
      have HF2 : Hid (Frm s W w2) := Frm.tr HF.out (Frm.of_below B2.out _)
      clear hx c1 CE CF HO c0
      have hsb := HSB.out
      by_cases heq : frameB x9 = (l.drop k).take (m + 6)
      · rw [if_pos heq] at hsb
        have HSS := Lib.hid hsb
        rw [decide_eq_true heq]
        clear hsb heq HSB
        obtain ⟨f', _, hwg, hfl⟩ := walkGo_some (at_ := k) HSS.out HW.out.2.1
        rw [HXL.out, List.drop_drop, show k + (m + 6) = k + (m + 6) from rfl] at hwg hfl
        have hfr : x9.length ≤ k + (m + 6) ∧ (l.drop (k + (m + 6) - x9.length)).take x9.length = x9 := by
          refine ⟨by have := HXL.out; omega, ?_⟩
          rw [HXL.out, show k + (m + 6) - m = k + 6 by omega, ← List.drop_drop]
          exact HX9.out.symm
        obtain ⟨fe, hfe⟩ : ∃ fe : Fr l, fe.1 = (k + (m + 6), x9) := ⟨⟨(k + (m + 6), x9), hfr⟩, rfl⟩
        have HWG : Hid (framesB l = (pre ++ [fe]).map (·.1) ++ walkGo f' (k + (m + 6)) (l.drop (k + (m + 6)))) := by (show _ = _); rw [HW.out.1, hwg]; simp [hfe]
        have HFL := Lib.hid hfl
        have hlen : pre.length < l.length := by have := HW.out.2.2; have := HN.out; omega
        obtain ⟨fn, tmps, assign, body, hy, hR⟩ := hY.out _ fe w2 HJ2.out hlen
        have henc : encF l bk o cap fe = #[.int .i64 ((k : Int) + ((m : Int) + 6)), .slice (some ⟨bk, o + (k + 6), none⟩) m (cap - (k + 6))] := by
          unfold encF
          rw [hfe]
          simp only [HXL.out]
          rw [show k + (m + 6) - m = k + 6 by omega]
          congr 2
        rw [henc] at hy
        have HR := Lib.hid hR
        clear hwg hfl hR henc hfe hfr
        gi_wp2
        refine HR.out.mono ?_
        rintro e W3 (⟨rfl, hJ3, hk3⟩ | ⟨rfl, hJx3⟩)
        · have HJ3 := Lib.hid hJ3
          have HK3 : Hid (Frm s W W3) := Frm.tr HF2.out hk3
          clear hJ3 hk3
          gi_wp2
          go_roundw
          case rel => exact ⟨k + (m + 6), f', _, by omega, by go_num, ⟨HWG.out, HFL.out, by have := HW.out.2.2; simp; omega⟩, HJ3, HK3⟩
          case measure => simp [intOf]; omega
        · have HJ3 := Lib.hid hJx3
          clear hJx3
          gi_wp2
          refine bodyPost_ret (results_none rfl _ _ _) rfl ?_
          exact ⟨⟨_, rfl⟩, .inr ⟨_, by rw [HWG.out]; exact List.prefix_append _ _, HJ3.out⟩⟩
      · rw [if_neg heq] at hsb
        have HSS := Lib.hid hsb
        rw [decide_eq_false heq]
        clear hsb heq HSB
        gi_wp2
        refine bodyPost_ret (results_none rfl _ _ _) rfl ?_
        exact ⟨⟨_, rfl⟩, .inl ⟨_, HEND.out HSS.out, HJ2.out⟩⟩
    · have HS : Hid (stepB (l.drop k) = none) := by
        show _ = _
        unfold stepB
        rw [if_neg]
        rintro ⟨h1, _⟩
        rw [List.length_drop] at h1
        have := HN.out
        omega
      have h6i : ¬ (6 : Int) < (N : Int) - (k : Int) := by omega
      gi_wp2
      go_end0
      exact ⟨⟨_, rfl⟩, .inl ⟨_, HEND.out HS.out, HJs.out⟩⟩
end Go.Proofs.Ytgcclkdlomifcaa
