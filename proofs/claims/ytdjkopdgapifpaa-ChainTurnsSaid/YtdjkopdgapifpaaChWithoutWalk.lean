/-
  The walk of the law ChainWithout.
-/
import Derived.Test.YtdjkopdgapifpaaChKeepsWalk
namespace Go.Proofs.Ytdjkopdgapifpaa
set_option linter.unusedVariables false
set_option linter.unusedSimpArgs false
open Go.RowKit Go.ChangeShapes Go.WideShapes

theorem okNodes_mk : ∀ (pre l : List Int), l.Nodup → (∀ x ∈ l, x ∉ pre) → (∀ x ∈ l, 0 ≤ x ∧ x ≤ 4) → okNodes pre l = true
  | _, [], _, _, _ => rfl
  | pre, y :: l, h1, h2, h3 => by
    have hn := List.nodup_cons.1 h1
    unfold okNodes
    rw [decide_eq_true (h3 y (by simp)), decide_eq_false (h2 y (by simp)), okNodes_mk (pre ++ [y]) l hn.2 (fun x hx hp => ?_) (fun x hx => h3 x (by simp [hx]))]
    · rfl
    · rcases List.mem_append.1 hp with hp | hp
      · exact h2 x (by simp [hx]) hp
      · simp at hp; subst hp; exact hn.1 hx
theorem mayChain_mk {ep : Int} {l : List Int} (he : 0 ≤ ep ∧ ep ≤ 1073741824) (hl : 1 ≤ l.length ∧ l.length ≤ 5) (hn : l.Nodup) (hx : ∀ x ∈ l, 0 ≤ x ∧ x ≤ 4) : mayChainB ep l = true := by
  unfold mayChainB
  rw [decide_eq_true he, decide_eq_true hl, okNodes_mk [] l hn (by simp) hx]
  rfl
theorem leftL_may {ep : Int} {l gone : List Int} (h : mayChainB ep l = true) (he : ep < 1073741824) : chOk (ep + 1) (leftL l gone) = if leftL l gone = [] then noCh else (ep + 1, leftL l gone, 0) := by
  obtain ⟨h1, h2, h3, h4⟩ := mayChain_all h
  by_cases hn : leftL l gone = []
  · rw [if_pos hn, hn]
    simp [chOk, mayChainB]
  · rw [if_neg hn]
    unfold chOk
    rw [if_pos]
    refine mayChain_mk (by omega) ⟨List.length_pos_iff.2 hn, Nat.le_trans (leftL_len _ _) h2.2⟩ (h3.filter _) (fun x hx => h4 x ((List.mem_filter.1 hx).1))

theorem ints_yes (A B : Option Addr) (c1 c2 : Nat) (l : List Int) (w : World) (h1 : l.length ≤ 9223372036854775807) (hs : Sl i64 w A l) (hs2 : Sl i64 w B l) :
    Calls Try.prog 55 #[.slice A l.length c1, .slice B l.length c2] w fun e w' => e = .returned (.bool true) ∧ Ext w w' := by
  refine (ints_any A B c1 c2 l l w h1 h1 hs hs2).mono fun e w' ⟨he, h⟩ => ⟨by rw [he]; simp, h⟩

set_option maxRecDepth 8000 in
set_option maxHeartbeats 16000000 in
theorem walk_chainWithout (ep : Int) (A : Option Addr) (c1 : Nat) (la : List Int) (G : Option Addr) (c2 : Nat) (lg : List Int) (w : World) (l1 : la.length ≤ 9223372036854775807) (hc1 : la.length ≤ c1) (hs : Sl i64 w A la) (l2 : lg.length ≤ 9223372036854775807) (hs2 : Sl i64 w G lg) :
    Calls Try.prog 14 #[chV ep A la.length c1, .slice G lg.length c2] w fun e w' => e = .returned (.bool true) ∧ Below w.heap.size w w' := by
  refine hide_post fun D hD => ?_
  obtain ⟨w0, hw0⟩ : ∃ w0, w0 = w.alloc (.cells #[.int .i64 ep, .slice A la.length c1] 50) := ⟨_, rfl⟩
  have hb0 : Ext w w0 := by rw [hw0]; exact ext_al _ _
  have KA : Blk w0 w.heap.size 50 #[.int .i64 ep, .slice A la.length c1] := by rw [hw0]; exact Blk.new w _ _
  have sa : ∀ V, Ext w0 V → Sl i64 V A la := fun V h => hs.stay (Ext.trans hb0 h)
  have sg : ∀ V, Ext w0 V → Sl i64 V G lg := fun V h => hs2.stay (Ext.trans hb0 h)
  have HTO : Hid (∀ V, Ext w0 V → Calls Try.prog 45 #[] V fun e w' => e = .returned (.bool true) ∧ Ext V w') := fun V h => told12 V
  have HFA0 : Hid (∀ b, decide (la.length ≤ 10) = b → ∀ V, Ext w0 V → Calls Try.prog 46 #[.agg #[.int .i64 ep, .slice A la.length c1]] V fun e w' => e = .returned (.bool b) ∧ Ext V w') := fun b hb V h => by rw [← hb]; exact few_any ep A la.length c1 V (by omega)
  have HMA0 : Hid (∀ b, mayChainB ep la = b → ∀ V, Ext w0 V → Calls Try.prog 44 #[.agg #[.int .i64 ep, .slice A la.length c1]] V fun e w' => e = .returned (.bool b) ∧ Ext V w') := fun b hb V h => by rw [← hb]; exact refMayChain_any ep A c1 la V (by omega) (sa V h)
  have HSA := Lib.hid sa
  have HSG := Lib.hid sg
  have fa0 : ∀ V, Ext w0 V → V.cell? ⟨w.heap.size, 0, none⟩ = some (.int .i64 ep) := fun V h => (KA.stay h).cell 0
  have fa1 : ∀ V, Ext w0 V → V.cell? ⟨w.heap.size, 1, none⟩ = some (.slice A la.length c1) := fun V h => (KA.stay h).cell 1
  have HB0 := Lib.hid hb0
  have HW0 := Lib.hid hw0
  have hN : Hid (w0.heap.size = w.heap.size + 1) := by (show _ = _); rw [hw0]; simp
  clear hb0 hw0 hs hs2 sa sg KA
  cases g0 : decide (la.length ≤ 10)
  · have HFA := Lib.hid (HFA0.out false g0)
    clear g0
    go_enter Try.func14, Try.ntmps14
    go_wp2_with (first
      | (go_at_call 46; rw [← HW0.out]; (with_reducible refine (HFA.out _ (Ext.refl _)).mono ?_); rintro e w1 ⟨rfl, hx⟩; have h1 : Ext w0 w1 := hx; clear hx)
      | (go_at_call 45; (with_reducible refine (HTO.out _ h1).mono ?_); rintro e w9 ⟨rfl, hx⟩; have h9 : Ext w0 w9 := Ext.trans h1 hx; clear hx))
    try go_ret
    exact hD.out _ _ ⟨rfl, Ext.trans HB0.out h9⟩
  have HFA := Lib.hid (HFA0.out true g0)
  have G0 := Lib.hid g0
  clear g0
  by_cases g1 : (6 : Int) < (lg.length : Int)
  · go_enter Try.func14, Try.ntmps14
    go_wp2_with (first
      | (go_at_call 46; rw [← HW0.out]; (with_reducible refine (HFA.out _ (Ext.refl _)).mono ?_); rintro e w1 ⟨rfl, hx⟩; have h1 : Ext w0 w1 := hx; clear hx)
      | (go_at_call 45; (with_reducible refine (HTO.out _ h1).mono ?_); rintro e w9 ⟨rfl, hx⟩; have h9 : Ext w0 w9 := Ext.trans h1 hx; clear hx))
    try go_ret
    exact hD.out _ _ ⟨rfl, Ext.trans HB0.out h9⟩
  cases g2 : mayChainB ep la
  · have HMA := Lib.hid (HMA0.out false g2)
    clear g2
    go_enter Try.func14, Try.ntmps14
    go_wp2_with (first
      | (go_at_call 46; rw [← HW0.out]; (with_reducible refine (HFA.out _ (Ext.refl _)).mono ?_); rintro e w1 ⟨rfl, hx⟩; have h1 : Ext w0 w1 := hx; clear hx)
      | (go_at_call 44; (with_reducible refine (HMA.out _ h1).mono ?_); rintro e w2 ⟨rfl, hx⟩; have h2 : Ext w0 w2 := Ext.trans h1 hx; clear hx)
      | (go_at_call 45; (with_reducible refine (HTO.out _ h2).mono ?_); rintro e w9 ⟨rfl, hx⟩; have h9 : Ext w0 w9 := Ext.trans h2 hx; clear hx))
    try go_ret
    exact hD.out _ _ ⟨rfl, Ext.trans HB0.out h9⟩
  have HMA := Lib.hid (HMA0.out true g2)
  obtain ⟨⟨e0, e1⟩, ⟨n0, n1⟩, nd, ns⟩ := mayChain_all g2
  by_cases g3 : 1073741824 ≤ ep
  · clear g2 nd ns
    go_enter Try.func14, Try.ntmps14
    go_wp2_with (first
      | (go_at_call 46; rw [← HW0.out]; (with_reducible refine (HFA.out _ (Ext.refl _)).mono ?_); rintro e w1 ⟨rfl, hx⟩; have h1 : Ext w0 w1 := hx; clear hx)
      | (go_at_call 44; (with_reducible refine (HMA.out _ h1).mono ?_); rintro e w2 ⟨rfl, hx⟩; have h2 : Ext w0 w2 := Ext.trans h1 hx; clear hx)
      | (go_at_call 45; (with_reducible refine (HTO.out _ h2).mono ?_); rintro e w9 ⟨rfl, hx⟩; have h9 : Ext w0 w9 := Ext.trans h2 hx; clear hx))
    try go_ret
    exact hD.out _ _ ⟨rfl, Ext.trans HB0.out h9⟩
  have hres := leftL_may (gone := lg) g2 (by omega)
  have HWO0 : Hid (∀ r, withoutL ep la lg = r → ∀ V, Ext w0 V → Calls Try.prog 41 #[.agg #[.int .i64 ep, .slice A la.length c1], .slice G lg.length c2] V (ChRes V r)) := fun r hr V h => by rw [← hr]; exact without_any ep A G c1 c2 la lg V (by omega) hc1 (by omega) (HSA.out V h) (HSG.out V h)
  have hwl : withoutL ep la lg = if leftL la lg = [] then noCh else (ep + 1, leftL la lg, 0) := by rw [withoutL, if_pos g2, hres]
  have HWO1 : Hid (∀ V, Ext w0 V → Calls Try.prog 41 #[.agg #[.int .i64 ep, .slice A la.length c1], .slice G lg.length c2] V fun e w' => ∃ (E : Int) (A' : Option Addr) (N C : Nat) (c : Int), e = .returned (.tuple #[.agg #[.int .i64 E, .slice A' N C], .int .i64 c]) ∧ Ext V w' ∧
      ((leftL la lg = [] ∧ c = 1) ∨ (leftL la lg ≠ [] ∧ c = 0 ∧ E = ep + 1 ∧ N = (leftL la lg).length ∧ Sl i64 w' A' (leftL la lg)))) := fun V h => (HWO0.out _ hwl V h).mono fun e w' ⟨A', cap, he, hs, hc, hx, _⟩ => by
    by_cases hn : leftL la lg = []
    · rw [if_pos hn] at he hs
      exact ⟨_, _, _, _, _, he, hx, .inl ⟨hn, rfl⟩⟩
    · rw [if_neg hn] at he hs
      exact ⟨_, _, _, _, _, he, hx, .inr ⟨hn, rfl, rfl, rfl, hs⟩⟩
  have HLT := Lib.hid (leftL_take la lg)
  have hLL := leftL_len la lg
  clear HWO0 hwl hres g2 nd ns HMA0 HFA0
  go_enter Try.func14, Try.ntmps14
  go_wp2_with (first
    | (go_at_call 46; rw [← HW0.out]; (with_reducible refine (HFA.out _ (Ext.refl _)).mono ?_); rintro e w1 ⟨rfl, hx⟩; have h1 : Ext w0 w1 := hx; clear hx)
    | (go_at_call 44; (with_reducible refine (HMA.out _ h1).mono ?_); rintro e w2 ⟨rfl, hx⟩; have h2 : Ext w0 w2 := Ext.trans h1 hx; clear hx)
    | (go_at_call 41; (with_reducible refine (HWO1.out _ h2).mono ?_); rintro e w3 ⟨E, A', N, C, c, rfl, hx, hor⟩; have h3 : Ext w0 w3 := Ext.trans h2 hx; have HOR := Lib.hid hor; clear hx hor))
  obtain ⟨wl, hwl⟩ : ∃ wl, wl = w3.alloc (.cells #[.int .i64 E, .slice A' N C] 50) := ⟨_, rfl⟩
  have hl : Ext w0 wl := by rw [hwl]; exact Ext.trans h3 (ext_al _ _)
  have HX1 : Hid (Ext w3 wl) := (by (show Ext _ _); rw [hwl]; exact ext_al _ _)
  have hz : w.heap.size + 1 ≤ w3.heap.size := by have h1 := h3.size; have h2 := hN.out; omega
  have KX : Hid (Blk wl w3.heap.size 50 #[.int .i64 E, .slice A' N C]) := by (show Blk _ _ _ _); rw [hwl]; exact Blk.new w3 _ _
  have hzl : w3.heap.size + 1 = wl.heap.size := by rw [hwl]; simp
  rw [← hwl]
  have HZL := Lib.hid hzl
  have HL0 := Lib.hid hl
  have hzl2 : w3.heap.size + 1 ≤ wl.heap.size := by omega
  clear hwl h1 h2 h3 hzl
  go_loopw [7, 8] (fun v i wr => ∃ (k : Nat) (v' : Value), k ≤ la.length ∧ v = v' ∧ i = .int .i64 k ∧ Hid (wr.ownsRow wl.heap.size 3 1 v' (leftL (la.take k) lg).length ((leftL (la.take k) lg).map i64)) ∧ Ext w0 wr ∧ Hid (Ext wl wr)) (fun _ i _ => la.length - (intOf i).toNat)
  case atStart => exact ⟨0, _, by omega, rfl, rfl, World.ownsRow_nil _ _ _ _, hl, Ext.refl _⟩
  case round =>
    obtain ⟨k, v', hk, hv, rfl, HO, hr, HXR⟩ := hrel
    have hv2 := hv.symm
    subst hv2
    clear hv
    clear hl
    by_cases hlt : k < la.length
    · obtain ⟨b, o, rfl, hcell⟩ := (HSA.out _ hr).at_ (k := k) hlt
      have Hk := Lib.hid (List.getElem?_eq_getElem hlt)
      have hT := HLT.out k hlt
      generalize la[k] = x at *
      have HT := Lib.hid hT
      unfold i64 at hcell
      clear hT hcell
      go_wp2
      obtain ⟨wo, rfl⟩ : ∃ wo : World, wo = wr := ⟨_, rfl⟩
      go_loopw [9, 10] (fun g j wr => ∃ (m : Nat) (b : Bool), m ≤ lg.length ∧ g = .bool b ∧ j = .int .i64 m ∧ Hid (b = decide (x ∈ lg.take m)) ∧ Ext w0 wr ∧ Hid (Ext wo wr)) (fun _ j _ => lg.length - (intOf j).toNat)
      case atStart => exact ⟨0, false, by omega, rfl, rfl, by (show _ = _); simp, hr, Ext.refl _⟩
      case round =>
        obtain ⟨m, gb, hm, rfl, rfl, HG, hr2, HX2⟩ := hrel
        by_cases hlm : m < lg.length
        · obtain ⟨b8, o8, e8, hc8⟩ := HSA.out _ hr2 k x Hk.out
          obtain ⟨b9, o9, rfl, hc9⟩ := (HSG.out _ hr2).at_ (k := m) hlm
          injection e8 with e8
          injection e8 with q1 q2
          subst q1 q2
          have ht : lg.take (m + 1) = lg.take m ++ [lg[m]] := List.take_succ_eq_append_getElem _
          generalize lg[m] = y at *
          have HT2 := Lib.hid ht
          unfold i64 at hc8 hc9
          clear ht
          have m0 : (0 : Int) ≤ (m : Int) := by omega
          have m1 : (m : Int) < (lg.length : Int) := by omega
          have k0 : (0 : Int) ≤ (k : Int) := by omega
          have k1 : (k : Int) < (la.length : Int) := by omega
          have cc := fa1 _ hr2
          cases gb
          · by_cases hy : y = x
            · have HG2 : Hid (true = decide (x ∈ lg.take (m + 1))) := by (show _ = _); rw [HT2.out, hy]; simp
              subst hy
              go_wp2
              go_quiet (fail)
              go_wp2
              go_roundw
              case rel => exact ⟨m + 1, true, by omega, rfl, by go_num, HG2, hr2.drewN, HX2.out.drewN⟩
              case measure => simp [intOf]; omega
            · have HG2 : Hid (false = decide (x ∈ lg.take (m + 1))) := by (show _ = _); rw [HT2.out]; have h1 := HG.out; simp at h1 ⊢; exact ⟨h1, fun e => hy e.symm⟩
              have hd : (y == x) = false := beq_eq_false_iff_ne.2 hy
              go_wp2
              go_quiet (fail)
              go_wp2
              go_roundw
              case rel => exact ⟨m + 1, false, by omega, rfl, by go_num, HG2, hr2.drewN, HX2.out.drewN⟩
              case measure => simp [intOf]; omega
          · have HG2 : Hid (true = decide (x ∈ lg.take (m + 1))) := by (show _ = _); rw [HT2.out]; have h1 := HG.out; simp at h1 ⊢; exact .inl h1
            go_wp2
            go_quiet (fail)
            go_wp2
            go_roundw
            case rel => exact ⟨m + 1, true, by omega, rfl, by go_num, HG2, hr2.drewN, HX2.out.drewN⟩
            case measure => simp [intOf]; omega
        · have hgo : gb = decide (x ∈ lg) := by have h1 := HG.out; rwa [List.take_of_length_le (by omega)] at h1
          have HO2 := Lib.hid (own_frm (s := fun _ => False) HO.out (Frm.of_below HX2.out _) (fun _ _ h => h))
          cases gb
          · have hT2 := HT.out
            rw [if_neg (of_decide_eq_false hgo.symm)] at hT2
            have HN2 := Lib.hid hT2
            obtain ⟨b8, o8, e8, hc8⟩ := HSA.out _ hr2 k x Hk.out
            injection e8 with e8
            injection e8 with q1 q2
            subst q1 q2
            unfold i64 at hc8
            have cc := fa1 _ hr2
            have hL5 : (leftL (la.take k) lg).length ≤ 5 := Nat.le_trans (leftL_len _ _) (by have := List.length_take_le k la; omega)
            have hbw : wl.heap.size ≤ wr.heap.size := (Ext.trans HXR.out HX2.out).size
            have HC1 := Lib.hid ((Blk.new wr 3 #[.int .i64 x]).cell 0)
            have HXX := Lib.hid (Ext.trans HXR.out HX2.out)
            clear hT2 hgo HO HX2 HXR HT
            generalize leftL (la.take k) lg = L at *
            go_wp2_with (at_builtin; refine wpList_append_one rfl _ _ 32 rfl wl.heap.size 3 (.int .i64 0) 8 Try.underlying32 info_int rfl (by omega) v' L.length (L.map i64) rfl (HO2.out.alloc _) wr.heap.size (i64 x) rfl HC1.out rfl (by omega) (by simp; omega) ?_; intro v2 w5 hown' hg'; have HOW := Lib.hid hown'; have HGR := Lib.hid hg'; clear hown' hg')
            have hE5 : Ext wl w5 := (Ext.trans HXX.out (ext_al wr _)).grown HGR.out (Ext.trans HXX.out (ext_al wr _)).size (fun q hq => (HO2.out.lt q hq).1)
            go_roundw
            case rel => exact ⟨k + 1, v2, by omega, rfl, by go_num, by (show World.ownsRow _ _ _ _ _ _ _); rw [HN2.out]; simpa using HOW.out, Ext.trans HL0.out hE5, hE5⟩
            case measure => simp [intOf]; omega
          · have hT2 := HT.out
            rw [if_pos (of_decide_eq_true hgo.symm), List.append_nil] at hT2
            have HN2 := Lib.hid hT2
            have HXX := Lib.hid (Ext.trans HXR.out HX2.out)
            clear hT2 hgo HT
            go_wp2
            go_roundw
            case rel => exact ⟨k + 1, v', by omega, rfl, by go_num, by (show World.ownsRow _ _ _ _ _ _ _); rw [HN2.out]; exact HO2.out, hr2, HXX⟩
            case measure => simp [intOf]; omega
    · have HT2 : Hid (leftL (la.take k) lg = leftL la lg) := by (show _ = _); rw [List.take_of_length_le (by omega)]
      obtain ⟨L, hL⟩ : ∃ L, L = leftL la lg := ⟨_, rfl⟩
      have ho := HO.out
      have hor := HOR.out
      rw [HT2.out, ← hL] at ho
      rw [← hL] at hor
      have hL5 : L.length ≤ 5 := by rw [hL]; omega
      obtain ⟨VA, vc, rfl⟩ := own_shape ho
      have hvs := own_sl ho
      have KXr : Hid (Blk wr w3.heap.size 50 #[.int .i64 E, .slice A' N C]) := KX.out.stay HXR.out
      clear HO HT2 HLT hL HOR hLL
      rcases hor with ⟨rfl, rfl⟩ | ⟨hne, rfl, rfl, rfl, hsx⟩
      · rw [List.length_nil]
        go_wp2_with (go_at_call 45; (with_reducible refine (HTO.out _ hr).mono ?_); rintro e w9 ⟨rfl, hx⟩; have h9 : Ext w0 w9 := Ext.trans hr hx; clear hx)
        try go_ret
        exact hD.out _ _ ⟨rfl, Ext.trans HB0.out h9⟩
      · have hsxr : Sl i64 wr A' L := (hsx.stay HX1.out).stay HXR.out
        have hpos : 0 < L.length := List.length_pos_iff.2 hne
        obtain ⟨b9, o9, rfl, hc9⟩ := hvs.at_ (k := 0) hpos
        have hhd : headI L = L[0] := by cases L with | nil => exact absurd rfl hne | cons a r => rfl
        have HIN : Hid (∀ V, Ext wr V → Calls Try.prog 55 #[.slice A' L.length C, .slice (some ⟨b9, o9, none⟩) L.length vc] V fun e w' => e = .returned (.bool true) ∧ Ext V w') := fun V h => ints_yes A' _ C vc L V (by omega) (hsxr.stay h) (hvs.stay h)
        have HHD : Hid (∀ V, Ext wr V → Calls Try.prog 51 #[.agg #[.int .i64 (ep + 1), .slice A' L.length C]] V fun e w' => e = .returned (.int .i64 L[0]) ∧ Ext V w') := fun V h => by rw [← hhd]; exact head_any (ep + 1) A' C L V (by omega) (hsxr.stay h)
        have HTO2 : Hid (∀ V, Ext wr V → Calls Try.prog 45 #[] V fun e w' => e = .returned (.bool true) ∧ Ext V w') := fun V h => HTO.out V (Ext.trans hr h)
        generalize L[0] = x0 at *
        unfold i64 at hc9
        simp only [Nat.add_zero] at hc9
        have hE0 : Hid (Ext wr wr) := Ext.refl _
        have f0 : ∀ W, Ext wr W → W.cell? ⟨b9, o9, none⟩ = some (.int .i64 x0) := fun W h => cell_stay h hc9
        have f1 : ∀ W, Ext wr W → W.cell? ⟨w3.heap.size, 0, none⟩ = some (.int .i64 (ep + 1)) := fun W h => (KXr.out.stay h).cell 0
        have f2 : ∀ W, Ext wr W → W.cell? ⟨w3.heap.size, 1, none⟩ = some (.slice A' L.length C) := fun W h => (KXr.out.stay h).cell 1
        have f3 : ∀ W, Ext wr W → W.cell? ⟨w.heap.size, 0, none⟩ = some (.int .i64 ep) := fun W h => fa0 W (Ext.trans hr h)
        have f4 : ∀ W, Ext wr W → W.cell? ⟨w.heap.size, 1, none⟩ = some (.slice A la.length c1) := fun W h => fa1 W (Ext.trans hr h)
        have HR0 := Lib.hid hr
        have hnz : ((L.length : Int) == 0) = false := by rw [beq_eq_false_iff_ne]; omega
        have hlp : (0 : Int) < (L.length : Int) := by omega
        have cc := f4 _ (Ext.refl _)
        clear fa0 fa1 hsxr hvs hsx hhd hc9 hr ho hne
        go_wp2
        clear cc
        have hwr : IntKind.i64.wrap (ep + 1) = ep + 1 := IntWalk.i64_in _ (by omega)
        refine ext_begin (by kernel_rfl) ?_
        have hE0d := Lib.hid (Ext.drewR hE0.out)
        refine ext_call (i := 0) rfl (by kernel_rfl) (by rfl) (fun K' hK => ?_)
        go_simp
        (go_at_call 45; (with_reducible refine (HTO2.out _ hE0d.out).mono ?_); rintro e w7 ⟨rfl, hx⟩; refine hK _ _ hx ?_; clear hK)
        have Ew7 := Lib.hid (Ext.trans hE0d.out hx)
        clear hx
        try simp only [Act.put, List.setIfInBounds_toArray, List.set_cons_zero, List.set_cons_succ]
        refine ext_take (i := 1) (v := ?_) rfl (by kernel_rfl) (by kernel_rfl) (by kernel_rfl) (fun _ _ _ h => h) (by rfl) ?_ ?_
        rotate_left
        · intro W hW; have hW0 := Ext.trans Ew7.out hW; clear hW; go_simp <;> with_reducible rfl
        try simp only [Act.put, List.setIfInBounds_toArray, List.set_cons_zero, List.set_cons_succ]
        refine ext_take (i := 2) (v := ?_) rfl (by kernel_rfl) (by kernel_rfl) (by kernel_rfl) (fun _ _ _ h => h) (by rfl) ?_ ?_
        rotate_left
        · intro W hW; have hW0 := Ext.trans Ew7.out hW; clear hW; go_simp <;> with_reducible rfl
        try simp only [Act.put, List.setIfInBounds_toArray, List.set_cons_zero, List.set_cons_succ]
        refine ext_take (i := 3) (v := ?_) rfl (by kernel_rfl) (by kernel_rfl) (by kernel_rfl) (fun _ _ _ h => h) (by rfl) ?_ ?_
        rotate_left
        · intro W hW; have hW0 := Ext.trans Ew7.out hW; clear hW; go_simp <;> with_reducible rfl
        try simp only [Act.put, List.setIfInBounds_toArray, List.set_cons_zero, List.set_cons_succ]
        refine ext_take (i := 4) (v := ?_) rfl (by kernel_rfl) (by kernel_rfl) (by kernel_rfl) (fun _ _ _ h => h) (by rfl) ?_ ?_
        rotate_left
        · intro W hW; have hW0 := Ext.trans Ew7.out hW; clear hW; go_simp <;> with_reducible rfl
        try simp only [Act.put, List.setIfInBounds_toArray, List.set_cons_zero, List.set_cons_succ]
        refine ext_take (i := 5) (v := ?_) rfl (by kernel_rfl) (by kernel_rfl) (by kernel_rfl) (fun _ _ _ h => h) (by rfl) ?_ ?_
        rotate_left
        · intro W hW; have hW0 := Ext.trans Ew7.out hW; clear hW; go_simp <;> with_reducible rfl
        try simp only [Act.put, List.setIfInBounds_toArray, List.set_cons_zero, List.set_cons_succ]
        refine ext_take (i := 6) (v := ?_) rfl (by kernel_rfl) (by kernel_rfl) (by kernel_rfl) (fun _ _ _ h => h) (by rfl) ?_ ?_
        rotate_left
        · intro W hW; have hW0 := Ext.trans Ew7.out hW; clear hW; go_simp <;> with_reducible rfl
        try simp only [Act.put, List.setIfInBounds_toArray, List.set_cons_zero, List.set_cons_succ]
        refine ext_take (i := 7) (v := ?_) rfl (by kernel_rfl) (by kernel_rfl) (by kernel_rfl) (fun _ _ _ h => h) (by rfl) ?_ ?_
        rotate_left
        · intro W hW; have hW0 := Ext.trans Ew7.out hW; clear hW; go_simp <;> with_reducible rfl
        try simp only [Act.put, List.setIfInBounds_toArray, List.set_cons_zero, List.set_cons_succ]
        refine ext_take (i := 8) (v := ?_) rfl (by kernel_rfl) (by kernel_rfl) (by kernel_rfl) (fun _ _ _ h => h) (by rfl) ?_ ?_
        rotate_left
        · intro W hW; have hW0 := Ext.trans Ew7.out hW; clear hW; go_simp <;> with_reducible rfl
        try simp only [Act.put, List.setIfInBounds_toArray, List.set_cons_zero, List.set_cons_succ]
        refine ext_call (i := 9) rfl (by kernel_rfl) (by rfl) (fun K' hK => ?_)
        go_simp
        (go_at_call 55; (with_reducible refine (HIN.out _ Ew7.out).mono ?_); rintro e w8 ⟨rfl, hx⟩; refine hK _ _ hx ?_; clear hK)
        have Ew8 := Lib.hid (Ext.trans Ew7.out hx)
        clear hx
        try simp only [Act.put, List.setIfInBounds_toArray, List.set_cons_zero, List.set_cons_succ]
        refine ext_take (i := 10) (v := ?_) rfl (by kernel_rfl) (by kernel_rfl) (by kernel_rfl) (fun _ _ _ h => h) (by rfl) ?_ ?_
        rotate_left
        · intro W hW; have hW0 := Ext.trans Ew8.out hW; clear hW; go_simp <;> with_reducible rfl
        try simp only [Act.put, List.setIfInBounds_toArray, List.set_cons_zero, List.set_cons_succ]
        refine ext_take (i := 11) (v := ?_) rfl (by kernel_rfl) (by kernel_rfl) (by kernel_rfl) (fun _ _ _ h => h) (by rfl) ?_ ?_
        rotate_left
        · intro W hW; have hW0 := Ext.trans Ew8.out hW; clear hW; go_simp <;> with_reducible rfl
        try simp only [Act.put, List.setIfInBounds_toArray, List.set_cons_zero, List.set_cons_succ]
        refine ext_take (i := 12) (v := ?_) rfl (by kernel_rfl) (by kernel_rfl) (by kernel_rfl) (fun _ _ _ h => h) (by rfl) ?_ ?_
        rotate_left
        · intro W hW; have hW0 := Ext.trans Ew8.out hW; clear hW; go_simp <;> with_reducible rfl
        try simp only [Act.put, List.setIfInBounds_toArray, List.set_cons_zero, List.set_cons_succ]
        refine ext_take (i := 13) (v := ?_) rfl (by kernel_rfl) (by kernel_rfl) (by kernel_rfl) (fun _ _ _ h => h) (by rfl) ?_ ?_
        rotate_left
        · intro W hW; have hW0 := Ext.trans Ew8.out hW; clear hW; go_simp <;> with_reducible rfl
        try simp only [Act.put, List.setIfInBounds_toArray, List.set_cons_zero, List.set_cons_succ]
        refine ext_take (i := 14) (v := ?_) rfl (by kernel_rfl) (by kernel_rfl) (by kernel_rfl) (fun _ _ _ h => h) (by rfl) ?_ ?_
        rotate_left
        · intro W hW; have hW0 := Ext.trans Ew8.out hW; clear hW; go_simp <;> with_reducible rfl
        try simp only [Act.put, List.setIfInBounds_toArray, List.set_cons_zero, List.set_cons_succ]
        refine ext_take (i := 15) (v := ?_) rfl (by kernel_rfl) (by kernel_rfl) (by kernel_rfl) (fun _ _ _ h => h) (by rfl) ?_ ?_
        rotate_left
        · intro W hW; have hW0 := Ext.trans Ew8.out hW; clear hW; go_simp <;> with_reducible rfl
        try simp only [Act.put, List.setIfInBounds_toArray, List.set_cons_zero, List.set_cons_succ]
        refine ext_take (i := 16) (v := ?_) rfl (by kernel_rfl) (by kernel_rfl) (by kernel_rfl) (fun _ _ _ h => h) (by rfl) ?_ ?_
        rotate_left
        · intro W hW; have hW0 := Ext.trans Ew8.out hW; clear hW; go_simp <;> with_reducible rfl
        try simp only [Act.put, List.setIfInBounds_toArray, List.set_cons_zero, List.set_cons_succ]
        refine ext_take (i := 17) (v := ?_) rfl (by kernel_rfl) (by kernel_rfl) (by kernel_rfl) (fun _ _ _ h => h) (by rfl) ?_ ?_
        rotate_left
        · intro W hW; have hW0 := Ext.trans Ew8.out hW; clear hW; go_simp <;> with_reducible rfl
        try simp only [Act.put, List.setIfInBounds_toArray, List.set_cons_zero, List.set_cons_succ]
        refine ext_take (i := 18) (v := ?_) rfl (by kernel_rfl) (by kernel_rfl) (by kernel_rfl) (fun _ _ _ h => h) (by rfl) ?_ ?_
        rotate_left
        · intro W hW; have hW0 := Ext.trans Ew8.out hW; clear hW; go_simp <;> with_reducible rfl
        try simp only [Act.put, List.setIfInBounds_toArray, List.set_cons_zero, List.set_cons_succ]
        refine ext_take (i := 19) (v := ?_) rfl (by kernel_rfl) (by kernel_rfl) (by kernel_rfl) (fun _ _ _ h => h) (by rfl) ?_ ?_
        rotate_left
        · intro W hW; have hW0 := Ext.trans Ew8.out hW; clear hW; go_simp <;> with_reducible rfl
        try simp only [Act.put, List.setIfInBounds_toArray, List.set_cons_zero, List.set_cons_succ]
        refine ext_take (i := 20) (v := ?_) rfl (by kernel_rfl) (by kernel_rfl) (by kernel_rfl) (fun _ _ _ h => h) (by rfl) ?_ ?_
        rotate_left
        · intro W hW; have hW0 := Ext.trans Ew8.out hW; clear hW; go_simp <;> with_reducible rfl
        try simp only [Act.put, List.setIfInBounds_toArray, List.set_cons_zero, List.set_cons_succ]
        refine ext_take (i := 22) (v := ?_) rfl (by kernel_rfl) (by kernel_rfl) (by kernel_rfl) (fun _ _ _ h => h) (by rfl) ?_ ?_
        rotate_left
        · intro W hW; have hW0 := Ext.trans Ew8.out hW; clear hW; go_simp <;> with_reducible rfl
        try simp only [Act.put, List.setIfInBounds_toArray, List.set_cons_zero, List.set_cons_succ]
        refine ext_take (i := 23) (v := ?_) rfl (by kernel_rfl) (by kernel_rfl) (by kernel_rfl) (fun _ _ _ h => h) (by rfl) ?_ ?_
        rotate_left
        · intro W hW; have hW0 := Ext.trans Ew8.out hW; clear hW; go_simp <;> with_reducible rfl
        try simp only [Act.put, List.setIfInBounds_toArray, List.set_cons_zero, List.set_cons_succ]
        refine ext_take (i := 24) (v := ?_) rfl (by kernel_rfl) (by kernel_rfl) (by kernel_rfl) (fun _ _ _ h => h) (by rfl) ?_ ?_
        rotate_left
        · intro W hW; have hW0 := Ext.trans Ew8.out hW; clear hW; go_simp <;> with_reducible rfl
        try simp only [Act.put, List.setIfInBounds_toArray, List.set_cons_zero, List.set_cons_succ]
        refine ext_call (i := 21) rfl (by kernel_rfl) (by rfl) (fun K' hK => ?_)
        go_simp
        (go_at_call 51; (with_reducible refine (HHD.out _ Ew8.out).mono ?_); rintro e w9 ⟨rfl, hx⟩; refine hK _ _ hx ?_; clear hK)
        have Ew9 := Lib.hid (Ext.trans Ew8.out hx)
        clear hx
        try simp only [Act.put, List.setIfInBounds_toArray, List.set_cons_zero, List.set_cons_succ]
        refine ext_take (i := 25) (v := ?_) rfl (by kernel_rfl) (by kernel_rfl) (by kernel_rfl) (fun _ _ _ h => h) (by rfl) ?_ ?_
        rotate_left
        · intro W hW; have hW0 := Ext.trans Ew9.out hW; clear hW; go_simp <;> with_reducible rfl
        try simp only [Act.put, List.setIfInBounds_toArray, List.set_cons_zero, List.set_cons_succ]
        refine ext_take (i := 26) (v := ?_) rfl (by kernel_rfl) (by kernel_rfl) (by kernel_rfl) (fun _ _ _ h => h) (by rfl) ?_ ?_
        rotate_left
        · intro W hW; have hW0 := Ext.trans Ew9.out hW; clear hW; go_simp <;> with_reducible rfl
        try simp only [Act.put, List.setIfInBounds_toArray, List.set_cons_zero, List.set_cons_succ]
        refine ext_take (i := 27) (v := ?_) rfl (by kernel_rfl) (by kernel_rfl) (by kernel_rfl) (fun _ _ _ h => h) (by rfl) ?_ ?_
        rotate_left
        · intro W hW; have hW0 := Ext.trans Ew9.out hW; clear hW; go_simp <;> with_reducible rfl
        try simp only [Act.put, List.setIfInBounds_toArray, List.set_cons_zero, List.set_cons_succ]
        refine wpAnyH_done (by kernel_rfl) ?_ _
        go_wp2
        try go_ret
        exact hD.out _ _ ⟨rfl, Ext.trans HB0.out (Ext.trans HR0.out Ew9.out)⟩

theorem law_chainWithout {H : Type} {enc : TypeId × Value → H} (W : World) (base : Nat) (args : Array Value) (ds : List (DataW H)) (p : List MemPlace)
    (hval : ∀ (j : Nat) t v, Try.f14.params[j]? = some t → args[j]? = some v → Value.okWide Try.prog W .any base t v)
    (hA : DataW.TrodAll enc Try.prog W 0 (fun _ => true) true Try.f14.params.toList args.toList ds p) :
    Calls Try.prog 14 args W fun e W' => e = .returned (.bool true) ∧ Below W.heap.size W W' := by
  rw [Try.params14] at hA hval
  obtain ⟨v0, vs0, d0, ds0, p0, q0, hargs, rfl, rfl, h0, r0⟩ := trodAll_cons hA
  obtain ⟨v1, vs1, d1, ds1, p1, q1, rfl, rfl, rfl, h1, r1⟩ := trodAll_cons r0
  obtain ⟨rfl, rfl, rfl⟩ := trodAll_nil r1
  obtain rfl : args = #[v0, v1] := by cases args; simp_all
  obtain ⟨ep0, A0, c0, l0, rfl, w0, x0, y0, z0, g0⟩ := open_chain (hval 0 50 v0 rfl rfl) h0
  obtain ⟨A1, n1, c1, rfl⟩ := okWide_slice Try.underlying32 (hval 1 32 v1 rfl rfl)
  obtain ⟨fuel1, hf1⟩ := h1
  obtain ⟨B1, e1, l1, hcs1, x1, y1, z1, g1⟩ := trod_ints_sl Try.underlying32 Try.underlying3 cells_int hf1
  simp only [Value.cells, List.cons.injEq, Value.slice.injEq, and_true] at hcs1
  obtain ⟨rfl, rfl, rfl⟩ := hcs1
  exact walk_chainWithout ep0 A0 c0 l0 A1 c1 l1 W (Nat.le_trans x0 y0) x0 z0 (Nat.le_trans x1 y1) z1

end Go.Proofs.Ytdjkopdgapifpaa
