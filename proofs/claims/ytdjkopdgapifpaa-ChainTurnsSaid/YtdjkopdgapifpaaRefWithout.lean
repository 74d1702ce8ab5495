/-
  The walk of the document's Without.
-/
import Derived.Test.YtdjkopdgapifpaaHeldZ
import Derived.Test.YtdjkopdgapifpaaFollows
namespace Go.Proofs.Ytdjkopdgapifpaa
set_option linter.unusedVariables false
set_option linter.unusedSimpArgs false
open Go.RowKit

def refWithoutL (ep : Int) (l gone : List Int) : Int × List Int × Int := if ep < 1073741824 then chOk (ep + 1) (leftL l gone) else noCh

theorem Sl.cellAt {α : Type} {f : α → Value} {w : World} {b o : Nat} {l : List α} {j : Nat} {v : α} (h : Sl f w (some ⟨b, o, none⟩) l) (hj : l[j]? = some v) : w.cell? ⟨b, o + j, none⟩ = some (f v) := by
  obtain ⟨b', o', e, hc⟩ := h j v hj
  injection e with e
  injection e with e1 e2
  subst e1 e2
  exact hc

set_option maxRecDepth 8000 in
set_option maxHeartbeats 16000000 in
theorem refWithout_any (ep : Int) (A G : Option Addr) (c1 c2 : Nat) (la lg : List Int) (w : World) (he : -9223372036854775808 ≤ ep) (l1 : la.length ≤ 1000000) (l2 : lg.length ≤ 9223372036854775807) (hs : Sl i64 w A la) (hs2 : Sl i64 w G lg) :
    Calls Try.prog 53 #[chV ep A la.length c1, .slice G lg.length c2] w (ChRes w (refWithoutL ep la lg)) := by
  refine hide_post fun D hD => ?_
  by_cases g0 : ep < 1073741824
  case neg =>
    have HN : Hid (refWithoutL ep la lg = noCh) := by (show _ = _); simp [refWithoutL, g0]
    rw [HN.out] at hD
    clear HN hs hs2
    generalize la.length = n1 at *
    generalize lg.length = n2 at *
    go_enter Try.func53, Try.ntmps53
    go_wp2
    exact bodyPost_ret (v := .tuple #[chV 0 none 0 0, .int .i64 1]) (by simp [results, Try.results53, go_sem]) rfl (hD.out _ _ (ChRes.no (Ext.trans (Ext.trans (ext_al _ _) (ext_al _ _)) (ext_al _ _))))
  have HRW : Hid (refWithoutL ep la lg = chOk (ep + 1) (leftL la lg)) := by (show _ = _); simp [refWithoutL, g0]
  rw [HRW.out] at hD
  clear HRW
  obtain ⟨w0, hw0⟩ : ∃ w0, w0 = ((w.alloc (.cells #[.int .i64 ep, .slice A la.length c1] 50)).alloc (.cells #[.int .i64 0, .slice none 0 0] 50)).alloc (.cells #[.int .i64 (ep + 1), .slice none 0 0] 50) := ⟨_, rfl⟩
  have hb0 : Ext w w0 := by rw [hw0]; exact Ext.trans (Ext.trans (ext_al _ _) (ext_al _ _)) (ext_al _ _)
  have K0 : Hid (Blk w0 w.heap.size 50 #[.int .i64 ep, .slice A la.length c1]) := by (show Blk _ _ _ _); rw [hw0]; exact ((Blk.new w _ _).alloc _).alloc _
  have K1 : Hid (Blk w0 (w.heap.size + 1) 50 #[.int .i64 0, .slice none 0 0]) := by (show Blk _ _ _ _); rw [hw0]; exact (Blk.new' _ _ _ _ (by simp)).alloc _
  have k2 : Blk w0 (w.heap.size + 1 + 1) 50 #[.int .i64 (ep + 1), .slice none 0 0] := by rw [hw0]; exact Blk.new' _ _ _ _ (by simp)
  have HL0 : Hid (Loc w0 w0 (w.heap.size + 1 + 1) (ep + 1) none 0 (leftL (la.take 0) lg)) := Loc.start (Below.refl _ _) k2
  have HSA : Hid (∀ V, Below w.heap.size w V → Sl i64 V A la) := fun V h => hs.stay h
  have HSG : Hid (∀ V, Below w.heap.size w V → Sl i64 V G lg) := fun V h => hs2.stay h
  have HLT := Lib.hid (leftL_take la lg)
  have HB0 := Lib.hid hb0
  have HW0 := Lib.hid hw0
  clear hb0 hw0 k2 hs hs2
  go_enter Try.func53, Try.ntmps53
  go_wp2
  rw [← HW0.out]
  go_loopw [7] (fun i wr => ∃ k : Nat, k ≤ la.length ∧ i = .int .i64 k ∧ Hid (∃ AL cL, Loc w0 wr (w.heap.size + 1 + 1) (ep + 1) AL cL (leftL (la.take k) lg))) (fun i _ => la.length - (intOf i).toNat)
  case atStart => exact ⟨0, by omega, rfl, _, _, HL0.out⟩
  case round =>
    obtain ⟨k, hk, rfl, HR⟩ := hrel
    obtain ⟨AL, cL, hL⟩ := HR.out
    have hlow : Below w.heap.size w wr := Below.trans HB0.out (hL.low.mono (by omega))
    have kC := K0.out.below hL.low (by omega)
    have c0 := kC.cell 0
    have c1' := kC.cell 1
    simp at c0 c1'
    have HL := Lib.hid hL
    have HLow := Lib.hid hlow
    have HKC := Lib.hid kC
    clear hL hlow kC HR HL0
    by_cases hlt : k < la.length
    · have Hk := Lib.hid (List.getElem?_eq_getElem hlt)
      have hT := HLT.out k hlt
      generalize la[k] = x at *
      have HT := Lib.hid hT
      clear hT
      go_wp2
      clear c0 c1'
      obtain ⟨wo, rfl⟩ : ∃ wo : World, wo = wr := ⟨_, rfl⟩
      go_loopw [8, 9] (fun g j wr => ∃ (m : Nat) (b : Bool), m ≤ lg.length ∧ g = .bool b ∧ j = .int .i64 m ∧ Hid (b = decide (x ∈ lg.take m)) ∧ Hid (Ext wo wr)) (fun _ j _ => lg.length - (intOf j).toNat)
      case atStart => exact ⟨0, false, by omega, rfl, rfl, by (show _ = _); simp, Ext.refl _⟩
      case round =>
        obtain ⟨m, gb, hm, rfl, rfl, HG, HX2⟩ := hrel
        have kC := HKC.out.stay HX2.out
        have c0 := kC.cell 0
        have c1' := kC.cell 1
        simp at c0 c1'
        have hlow2 : Below w.heap.size w wr := Below.trans HLow.out (Below.mono HX2.out HLow.out.size)
        have HLow2 := Lib.hid hlow2
        clear kC hlow2
        obtain ⟨b8, o8, rfl, hc8⟩ := HSA.out _ HLow2.out k x Hk.out
        unfold i64 at hc8
        have k0 : (0 : Int) ≤ (k : Int) := by omega
        have k1 : (k : Int) < (la.length : Int) := by omega
        by_cases hlm : m < lg.length
        · obtain ⟨b9, o9, rfl, hc9⟩ := (HSG.out _ HLow2.out).at_ (k := m) hlm
          have ht : lg.take (m + 1) = lg.take m ++ [lg[m]] := List.take_succ_eq_append_getElem _
          generalize lg[m] = y at *
          have HT2 := Lib.hid ht
          unfold i64 at hc9
          clear ht
          have m0 : (0 : Int) ≤ (m : Int) := by omega
          have m1 : (m : Int) < (lg.length : Int) := by omega
          cases gb
          · by_cases hy : y = x
            · have HG2 : Hid (true = decide (x ∈ lg.take (m + 1))) := by (show _ = _); rw [HT2.out, hy]; simp
              subst hy
              go_wp2
              go_quiet (fail)
              go_wp2
              go_roundw
              case rel => exact ⟨m + 1, true, by omega, rfl, by go_num, HG2, HX2.out.drewN⟩
              case measure => simp [intOf]; omega
            · have HG2 : Hid (false = decide (x ∈ lg.take (m + 1))) := by (show _ = _); rw [HT2.out]; have h1 := HG.out; simp at h1 ⊢; exact ⟨h1, fun e => hy e.symm⟩
              have hd : (y == x) = false := beq_eq_false_iff_ne.2 hy
              go_wp2
              go_quiet (fail)
              go_wp2
              go_roundw
              case rel => exact ⟨m + 1, false, by omega, rfl, by go_num, HG2, HX2.out.drewN⟩
              case measure => simp [intOf]; omega
          · have HG2 : Hid (true = decide (x ∈ lg.take (m + 1))) := by (show _ = _); rw [HT2.out]; have h1 := HG.out; simp at h1 ⊢; exact .inl h1
            go_wp2
            go_quiet (fail)
            go_wp2
            go_roundw
            case rel => exact ⟨m + 1, true, by omega, rfl, by go_num, HG2, HX2.out.drewN⟩
            case measure => simp [intOf]; omega
        · have hgo : gb = decide (x ∈ lg) := by have h1 := HG.out; rwa [List.take_of_length_le (by omega)] at h1
          have HL2 := Lib.hid (HL.out.stay HX2.out)
          clear c0 c1'
          cases gb
          · have hT2 := HT.out
            rw [if_neg (of_decide_eq_false hgo.symm)] at hT2
            have HN2 := Lib.hid hT2
            have hL5 : (leftL (la.take k) lg).length ≤ 1000000 := Nat.le_trans (leftL_len _ _) (by have := List.length_take_le k la; omega)
            clear hT2 hgo HT HL HX2
            go_wp2_with fail
            obtain ⟨wd, hwd⟩ : ∃ wd, wd = wr.drew := ⟨_, rfl⟩
            have xrd : Ext wr wd := by rw [hwd]; exact Ext.drewR (Ext.refl _)
            have hLd := HL2.out.stay xrd
            have kC := K0.out.below hLd.low (by omega)
            have HP : Hid (∀ w' A' c', (wd.alloc (.cells #[.int .i64 x] 3)).grownBy w' (Value.slice AL (leftL (la.take k) lg).length cL).ownBlock → w'.ownsRow (w.heap.size + 1 + 1 + 1) 3 1 (.slice A' ((leftL (la.take k) lg).length + 1) c') ((leftL (la.take k) lg).length + 1) ((leftL (la.take k) lg).map i64 ++ [i64 x]) →
                Blk w' (w.heap.size + 1 + 1) 50 #[.int .i64 (ep + 1), .slice AL (leftL (la.take k) lg).length cL] ∧ Loc w0 (w'.setCell ⟨w.heap.size + 1 + 1, 1, none⟩ (.slice A' ((leftL (la.take k) lg).length + 1) c')) (w.heap.size + 1 + 1) (ep + 1) A' c' (leftL (la.take (k + 1)) lg)) := fun w' A' c' h1 h2 => by rw [HN2.out]; exact hLd.push x h1 h2
            have hz : w.heap.size + 1 + 1 < wd.heap.size := hLd.lt
            have hb8 : b8 < w.heap.size + 1 + 1 := by have := World.block_lt_of_cell? w _ ((HSA.out w (Below.refl _ _)).cellAt Hk.out); simp at this; omega
            have s0 : ∀ W, Frm (fun k => w.heap.size + 1 + 1 < k) wd W → W.cell? ⟨w.heap.size, 0, none⟩ = some (.int .i64 ep) := fun W h => (kC.frm h (by omega)).cell 0
            have s1 : ∀ W, Frm (fun k => w.heap.size + 1 + 1 < k) wd W → W.cell? ⟨w.heap.size, 1, none⟩ = some (.slice (some ⟨b8, o8, none⟩) la.length c1) := fun W h => (kC.frm h (by omega)).cell 1
            have s2 : ∀ W, Frm (fun k => w.heap.size + 1 + 1 < k) wd W → W.cell? ⟨w.heap.size + 1 + 1, 1, none⟩ = some (.slice AL (leftL (la.take k) lg).length cL) := fun W h => (hLd.blk.frm h (by omega)).cell 1
            have s3 : ∀ W, Frm (fun k => w.heap.size + 1 + 1 < k) wd W → W.cell? ⟨b8, o8 + k, none⟩ = some (.int .i64 x) := fun W h => (World.cell?_of_block (h.block b8 (by omega) (by omega))).trans (by rw [hwd]; exact hc8)
            have HO := Lib.hid hLd.own
            have E0 : Hid (Frm (fun k => w.heap.size + 1 + 1 < k) wd wd) := Frm.refl _ _
            clear hLd kC xrd hc8 HL2
            generalize leftL (la.take k) lg = L at *
            refine rz_begin (fun k => w.heap.size + 1 + 1 < k) [10] (by kernel_rfl) ?_
            rw [← hwd]
            clear hwd
            refine rz_take [1, 8, 9, 10] (i := 0) (v := ?_) rfl (by kernel_rfl) (by kernel_rfl) (by kernel_rfl) (by kernel_rfl) (by kernel_rfl) (by kernel_rfl) (fun _ _ _ h => h) (by rfl) ?_ ?_
            rotate_left
            · intro W hW; have hW0 := Frm.tr E0.out hW; clear hW; go_simp <;> with_reducible rfl
            try simp only [Act.put, List.setIfInBounds_toArray, List.set_cons_zero, List.set_cons_succ]
            refine rz_take [8, 9, 10] (i := 1) (v := ?_) rfl (by kernel_rfl) (by kernel_rfl) (by kernel_rfl) (by kernel_rfl) (by kernel_rfl) (by kernel_rfl) (fun _ _ _ h => h) (by rfl) ?_ ?_
            rotate_left
            · intro W hW; have hW0 := Frm.tr E0.out hW; clear hW; go_simp <;> with_reducible rfl
            try simp only [Act.put, List.setIfInBounds_toArray, List.set_cons_zero, List.set_cons_succ]
            refine rz_take [3, 5, 6, 7, 8, 9, 10] (i := 2) (v := ?_) rfl (by kernel_rfl) (by kernel_rfl) (by kernel_rfl) (by kernel_rfl) (by kernel_rfl) (by kernel_rfl) (fun _ _ _ h => h) (by rfl) ?_ ?_
            rotate_left
            · intro W hW; have hW0 := Frm.tr E0.out hW; clear hW; go_simp <;> with_reducible rfl
            try simp only [Act.put, List.setIfInBounds_toArray, List.set_cons_zero, List.set_cons_succ]
            refine rz_take [5, 6, 7, 8, 9, 10] (i := 3) (v := ?_) rfl (by kernel_rfl) (by kernel_rfl) (by kernel_rfl) (by kernel_rfl) (by kernel_rfl) (by kernel_rfl) (fun _ _ _ h => h) (by rfl) ?_ ?_
            rotate_left
            · intro W hW; have hW0 := Frm.tr E0.out hW; clear hW; go_simp <;> with_reducible rfl
            try simp only [Act.put, List.setIfInBounds_toArray, List.set_cons_zero, List.set_cons_succ]
            refine rz_take [5, 6, 7, 8, 9, 10] (i := 4) (v := ?_) rfl (by kernel_rfl) (by kernel_rfl) (by kernel_rfl) (by kernel_rfl) (by kernel_rfl) (by kernel_rfl) (fun _ _ _ h => h) (by rfl) ?_ ?_
            rotate_left
            · intro W hW; have hW0 := Frm.tr E0.out hW; clear hW; go_simp <;> with_reducible rfl
            try simp only [Act.put, List.setIfInBounds_toArray, List.set_cons_zero, List.set_cons_succ]
            refine rz_take [6, 7, 8, 9, 10] (i := 5) (v := ?_) rfl (by kernel_rfl) (by kernel_rfl) (by kernel_rfl) (by kernel_rfl) (by kernel_rfl) (by kernel_rfl) (fun _ _ _ h => h) (by rfl) ?_ ?_
            rotate_left
            · intro W hW; have hW0 := Frm.tr E0.out hW; clear hW; go_simp <;> with_reducible rfl
            try simp only [Act.put, List.setIfInBounds_toArray, List.set_cons_zero, List.set_cons_succ]
            refine rz_take [7, 8, 9, 10] (i := 6) (v := ?_) rfl (by kernel_rfl) (by kernel_rfl) (by kernel_rfl) (by kernel_rfl) (by kernel_rfl) (by kernel_rfl) (fun _ _ _ h => h) (by rfl) ?_ ?_
            rotate_left
            · intro W hW; have hW0 := Frm.tr E0.out hW; clear hW; go_simp <;> with_reducible rfl
            try simp only [Act.put, List.setIfInBounds_toArray, List.set_cons_zero, List.set_cons_succ]
            refine rz_call (i := 7) rfl (by kernel_rfl) (by rfl) (fun K hK => ?_)
            go_simp
            refine hK _ _ (Frm.of_alloc _ _ _) ?_; clear hK K
            try simp only [Act.put, List.setIfInBounds_toArray, List.set_cons_zero, List.set_cons_succ]
            refine rz_call (i := 8) rfl (by kernel_rfl) (by rfl) (fun K hK => ?_)
            refine wp_append_list (.tmp 50) (.tmp 56) 32 rfl (w.heap.size + 1 + 1 + 1) 3 (.int .i64 0) 8 Try.underlying32 info_int rfl (by decide) (.slice AL L.length cL) L.length (L.map i64) rfl (HO.out.alloc _) i64 (some ⟨wd.heap.size, 0, none⟩) [x] 1 1 rfl rfl (Sl.of_blk (Blk.new wd _ _) (fun j v hj => by match j, hj with | 0, hj => (simp at hj; subst hj; rfl))) (fun _ => rfl) (by simp; omega) (by simp; omega) ?_
            intro v2 W2 o2 g2' b2
            refine hK _ _ (Frm.of_grown g2' (fun k hk => by have := (HO.out.lt k hk.symm).1; omega)) ?_
            clear hK K b2
            obtain ⟨A2, cap2, rfl⟩ := own_shape o2
            obtain ⟨kB, hLN⟩ := HP.out W2 A2 cap2 g2' o2
            have q1 := kB.cell 1
            have q2 := kB.frozen 1
            simp at q1
            have HLN := Lib.hid hLN
            clear kB hLN g2' o2
            try simp only [Act.put, List.setIfInBounds_toArray, List.set_cons_zero, List.set_cons_succ]
            refine rz_take [10] (i := 9) (v := ?_) rfl (by kernel_rfl) (by kernel_rfl) (by kernel_rfl) (by kernel_rfl) (by kernel_rfl) (by kernel_rfl) (fun _ _ _ h => h) (by rfl) ?_ ?_
            rotate_left
            · intro W hW; go_simp <;> with_reducible rfl
            try simp only [Act.put, List.setIfInBounds_toArray, List.set_cons_zero, List.set_cons_succ]
            refine rz_last (i := 10) rfl (by kernel_rfl) (by rfl) (by rfl) (fun K hK => ?_)
            go_simp
            refine hK _ _ ?_; clear hK K q1 q2
            try simp only [Act.put, List.setIfInBounds_toArray, List.set_cons_zero, List.set_cons_succ]
            refine rz_done (by kernel_rfl) ?_ _
            go_wp2
            go_roundw
            case rel => exact ⟨k + 1, by omega, by go_num, _, _, HLN.out⟩
            case measure => simp [intOf]; omega
          · have hT2 := HT.out
            rw [if_pos (of_decide_eq_true hgo.symm), List.append_nil] at hT2
            have HN2 := Lib.hid hT2
            clear hT2 hgo HT
            go_wp2
            go_roundw
            case rel => exact ⟨k + 1, by omega, by go_num, _, _, by rw [HN2.out]; exact HL2.out⟩
            case measure => simp [intOf]; omega
    · have HE : Hid (leftL (la.take k) lg = leftL la lg) := by (show _ = _); rw [List.take_of_length_le (by omega)]
      have HN5 : (leftL la lg).length ≤ 1000000 := Nat.le_trans (leftL_len _ _) l1
      have hL3 := HL.out
      rw [HE.out] at hL3
      obtain ⟨L, hLe⟩ : ∃ L, L = leftL la lg := ⟨_, rfl⟩
      rw [← hLe] at hL3 HN5 hD
      clear hLe HE HL HLT
      have d0 := hL3.blk.cell 0
      have d1 := hL3.blk.cell 1
      simp at d0 d1
      have HL3 := Lib.hid hL3
      have HCALL : Hid (∀ b, mayChainB (ep + 1) L = b → Calls Try.prog 44 #[.agg #[.int .i64 (ep + 1), .slice AL L.length cL]] wr fun e w' => e = .returned (.bool b) ∧ Ext wr w') := fun b hb => by rw [← hb]; exact refMayChain_any (ep + 1) AL cL L wr (by omega) hL3.sl
      clear hL3
      have HFIN : Hid (∀ w9 E A' N C c, Ext wr w9 → MayR (ep + 1) AL cL L E A' N C c → D (.returned (.tuple #[.agg #[.int .i64 E, .slice A' N C], .int .i64 c])) ((w9.setCell ⟨w.heap.size + 1, 0, none⟩ (.int .i64 E)).setCell ⟨w.heap.size + 1, 1, none⟩ (.slice A' N C))) := fun w9 E A' N C c hx hr => by
        have hF : Frm (fun k => k = w.heap.size + 1) w9 ((w9.setCell ⟨w.heap.size + 1, 0, none⟩ (.int .i64 E)).setCell ⟨w.heap.size + 1, 1, none⟩ (.slice A' N C)) := Frm.tr (Frm.of_set _ _ _ rfl) (Frm.of_set _ _ _ rfl)
        have h1 := HL3.out.stay hx
        have h2 := own_frm h1.own hF (fun k hk e => by have := (h1.own.lt k hk).1; omega)
        have hlo : Below w.heap.size w w9 := Below.trans HLow.out (Below.mono hx HLow.out.size)
        exact hD.out _ _ (MayR.res hr (own_sl h2) (own_cap h2) (fun a ha => by have := own_fresh h2 a ha; omega) (hlo.trans (hF.below hlo.size (by rintro k e; omega))))
      cases g5 : mayChainB (ep + 1) L
      · have HC := Lib.hid (HCALL.out false g5)
        have HMR : Hid (MayR (ep + 1) AL cL L 0 none 0 0 1) := .inr ⟨g5, rfl, rfl, rfl, rfl, rfl⟩
        clear g5 HCALL hD
        generalize L.length = n5 at *
        go_wp2_with (go_at_call 44; (with_reducible refine HC.out.mono ?_); rintro e w9 ⟨rfl, hx⟩; have kr := (K1.out.below (HL3.out.stay hx).low (by omega)); have q0 := kr.cell 0; have q1 := kr.cell 1; have q2 := kr.frozen 0; have q3 := kr.frozen 1; have KR := Lib.hid kr; have HX9 := Lib.hid hx; clear kr hx; simp at q0 q1)
        have KA := (KR.out.set 0 (.int .i64 0)).set 1 (.slice none 0 0)
        have hcA := KA.cell 0
        have hcB := KA.cell 1
        simp at hcA hcB
        have hE := HFIN.out _ _ _ _ _ _ HX9.out HMR.out
        exact bodyPost_ret (v := .tuple #[chV 0 none 0 0, .int .i64 1]) (by simp [results, Try.results53, go_sem, hcA, hcB]) rfl hE
      · have HC := Lib.hid (HCALL.out true g5)
        have HMR : Hid (MayR (ep + 1) AL cL L (ep + 1) AL L.length cL 0) := .inl ⟨g5, rfl, rfl, rfl, rfl, rfl⟩
        clear g5 HCALL hD
        go_wp2_with (go_at_call 44; (with_reducible refine HC.out.mono ?_); rintro e w9 ⟨rfl, hx⟩; have kr := (K1.out.below (HL3.out.stay hx).low (by omega)); have q0 := kr.cell 0; have q1 := kr.cell 1; have q2 := kr.frozen 0; have q3 := kr.frozen 1; have KR := Lib.hid kr; have e0 := (HL3.out.stay hx).blk.cell 0; have e1 := (HL3.out.stay hx).blk.cell 1; have HX9 := Lib.hid hx; clear kr hx; simp at q0 q1 e0 e1)
        have KA := (KR.out.set 0 (.int .i64 (ep + 1))).set 1 (.slice AL L.length cL)
        have hcA := KA.cell 0
        have hcB := KA.cell 1
        simp at hcA hcB
        have hE := HFIN.out _ _ _ _ _ _ HX9.out HMR.out
        exact bodyPost_ret (v := .tuple #[.agg #[.int .i64 (ep + 1), .slice AL L.length cL], .int .i64 0]) (by simp [results, Try.results53, go_sem, hcA, hcB]) rfl hE
end Go.Proofs.Ytdjkopdgapifpaa
