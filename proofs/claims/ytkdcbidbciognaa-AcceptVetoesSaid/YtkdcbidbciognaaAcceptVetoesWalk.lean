/-
  The walk of the law AcceptVetoes.
-/
import Derived.Test.YtkdcbidbciognaaAcceptRisesWalk
import Derived.Test.YtkdcbidbciognaaAccBytes
namespace Go.Proofs.Ytkdcbidbciognaa
set_option linter.unusedVariables false
set_option linter.unusedSimpArgs false
open Go.RowKit Go.ChangeShapes Go.WideShapes Go.Joins Go.Deep

set_option maxRecDepth 20000 in
theorem open_bal {H : Type} {enc : TypeId × Value → H} {W : World} {base : Nat} {r : Reach} {v : Value} {d : DataW H} {p : List MemPlace}
    (hval : Value.okWide Try.prog W r base 23 v) (h : DataW.Trod enc Try.prog W 0 (fun _ => true) true 23 v d p) :
    ∃ (x y : Int), v = .agg #[.int .i64 x, .int .i64 y] ∧ (Lit.int .i64 x).wf = true ∧ (Lit.int .i64 y).wf = true := by
  obtain ⟨c0, c1, y0, y1, m, rfl, _, _, hy0, hy1⟩ := open_agg2 Try.underlying23 (by kernel_rfl) (by kernel_rfl) hval h
  obtain ⟨x, e0, _, w0⟩ := DataW.trod_int Try.underlying3 hy0
  obtain ⟨y, e1, _, w1⟩ := DataW.trod_int Try.underlying3 hy1
  simp only [List.cons.injEq, and_true] at e0 e1
  subst e0; subst e1
  exact ⟨x, y, rfl, w0, w1⟩

theorem veto_law (v : AV) (ep : Int) (l : List Int) (br bn : Int) : (accE v ep l br bn true = 8 ∧ accE v ep l br bn false = 0) ∨ (accE v ep l br bn true = accE v ep l br bn false ∧ ¬ accE v ep l br bn true = 0 ∧ ¬ accE v ep l br bn true = 8) := by
  unfold accE
  cases (!mayBal br bn || !mayChainB ep l) <;> cases decide (ep ≤ v.kep) <;> cases (!decide (ep = v.kep + 1)) <;> cases (!nextB v.kep ep v.kns l v.n) <;> cases decide (cmpBal br bn v.pr v.pn < 0) <;> simp [firstI]

set_option maxRecDepth 8000 in
set_option maxHeartbeats 64000000 in
theorem walk_acceptVetoes (A0 : Option Addr) (xs : List Op13) (cap0 : Nat) (ep9 : Int) (A9 : Option Addr) (cap9 : Nat) (l9 : List Int) (br9 bn9 : Int) (w : World) (hc0 : xs.length ≤ cap0) (hn : xs.length ≤ 9223372036854775807) (hS : So13 w A0 xs) (hcap9 : l9.length ≤ cap9) (hl9 : l9.length ≤ 9223372036854775807) (hs9 : Sl i64 w A9 l9) :
    Calls Try.prog 8 #[.slice A0 xs.length cap0, .agg #[.int .i64 ep9, .slice A9 l9.length cap9], .agg #[.int .i64 br9, .int .i64 bn9]] w fun e w' => e = .returned (.bool true) ∧ Below w.heap.size w w' := by
  refine hide_post fun D hD => ?_
  obtain ⟨N9, hN9⟩ : ∃ N, N = l9.length := ⟨_, rfl⟩
  obtain ⟨nn, hnn⟩ : ∃ n, n = xs.length := ⟨_, rfl⟩
  rw [← hnn] at hn ⊢
  rw [← hN9] at hl9 ⊢
  obtain ⟨w0, hw0⟩ : ∃ w0, w0 = (w.alloc (.cells #[.int .i64 ep9, .slice A9 N9 cap9] 26)).alloc (.cells #[.int .i64 br9, .int .i64 bn9] 23) := ⟨_, rfl⟩
  have hb0 : Ext w w0 := by rw [hw0]; exact Ext.trans (ext_al _ _) (ext_al _ _)
  have KC : Hid (Blk w0 w.heap.size 26 #[.int .i64 ep9, .slice A9 N9 cap9]) := by show Blk _ _ _ _; rw [hw0]; exact (Blk.new _ _ _).alloc _
  have KBB : Hid (Blk w0 (w.heap.size + 1) 23 #[.int .i64 br9, .int .i64 bn9]) := by show Blk _ _ _ _; rw [hw0]; exact Blk.new' _ _ _ _ (by simp)
  have hz0 : w0.heap.size = w.heap.size + 2 := by rw [hw0]; simp
  have CN : Hid (Calls Try.prog 26 #[.int .i64 4] w0 fun e w' => ∃ a, e = .returned (.tuple #[.pointer (some ⟨a, 0, none⟩), .int .i64 0]) ∧ AAt w' a ⟨4, 1, upTo 4, 0, 0, 0, 0, false, 0, []⟩ ∧ Ext w0 w' ∧ w0.heap.size ≤ a) := new_yes 4 w0 (by decide) (by decide)
  have HTO : Hid (∀ V, Calls Try.prog 31 #[] V fun e w' => e = .returned (.bool true) ∧ Ext V w') := told13
  have HS := Lib.hid hS
  have HN := Lib.hid hnn
  have HN9 := Lib.hid hN9
  have HS9 := Lib.hid hs9
  have HCAP9 : Hid (l9.length ≤ cap9) := hcap9
  have HB := Lib.hid hb0
  have HW := Lib.hid hw0
  have HZ0 := Lib.hid hz0
  clear hS hnn hc0 hN9 hs9 hcap9 hb0 hw0 hz0
  have HL9 : Hid (N9 ≤ 9223372036854775807) := hl9
  clear hl9
  by_cases g0 : (30 : Int) < (nn : Int)
  · go_enter Try.func8, Try.ntmps8
    go_wp2_with (first
      | (go_at_call 26; rw [← HW.out]; (with_reducible refine CN.out.mono ?_); rintro e w1 ⟨a, rfl, hA, hx, hba⟩; have KO : Hid (Below w.heap.size w w1) := Ext.trans HB.out hx; clear hA hx hba)
      | (go_at_call 31; (with_reducible refine (HTO.out _).mono ?_); rintro e wt ⟨rfl, hx⟩; have KT : Hid (Below w.heap.size w wt) := Below.trans KO.out (Below.mono hx KO.out.size); clear hx))
    try go_ret
    exact hD.out _ _ ⟨rfl, KT.out⟩
  by_cases g1 : (8 : Int) < (N9 : Int)
  · go_enter Try.func8, Try.ntmps8
    go_wp2_with (first
      | (go_at_call 26; rw [← HW.out]; (with_reducible refine CN.out.mono ?_); rintro e w1 ⟨a, rfl, hA, hx, hba⟩; have KO : Hid (Below w.heap.size w w1) := Ext.trans HB.out hx; have c1 := (KC.out.stay hx).cell 1; simp at c1; clear hA hx hba)
      | (go_at_call 31; (with_reducible refine (HTO.out _).mono ?_); rintro e wt ⟨rfl, hx⟩; have KT : Hid (Below w.heap.size w wt) := Below.trans KO.out (Below.mono hx KO.out.size); clear hx))
    try go_ret
    exact hD.out _ _ ⟨rfl, KT.out⟩
  have HL8 : Hid (l9.length ≤ 8) := by (show _ ≤ _); have := HN9.out; omega
  go_enter Try.func8, Try.ntmps8
  go_wp2_with (go_at_call 26; rw [← HW.out]; (with_reducible refine CN.out.mono ?_); rintro e w1 ⟨a, rfl, hA, hx, hba⟩; have HA1 := Lib.hid hA; have X1 : Hid (Ext w w1) := Ext.trans HB.out hx; have X01 := Lib.hid hx; have HBA : Hid (w0.heap.size ≤ a) := hba; have c1 := (KC.out.stay hx).cell 1; simp at c1; clear hA hx hba)
  have HBA0 : Hid (w.heap.size ≤ a) := by (show _ ≤ _); have := HBA.out; have := HZ0.out; omega
  have HI0 : Hid (RsI w w1 a 4 ∧ Blk w1 w.heap.size 26 #[.int .i64 ep9, .slice A9 N9 cap9] ∧ Blk w1 (w.heap.size + 1) 23 #[.int .i64 br9, .int .i64 bn9]) := ⟨⟨_, HA1.out, ⟨by decide, by decide, by decide, by decide, by decide, fun _ => ⟨rfl, rfl, rfl, rfl⟩, fun h => by cases h⟩, rfl, X1.out, HBA0.out⟩, KC.out.stay X01.out, KBB.out.stay X01.out⟩
  have HNB : Hid (¬ w.heap.size = a ∧ ¬ w.heap.size + 1 = a) := by (show _ ∧ _); have := HBA.out; have := HZ0.out; omega
  clear c1
  go_loopw [9] (fun i wr => ∃ (j : Nat), j ≤ nn ∧ i = .int .i64 j ∧ Hid (RsI w wr a 4 ∧ Blk wr w.heap.size 26 #[.int .i64 ep9, .slice A9 N9 cap9] ∧ Blk wr (w.heap.size + 1) 23 #[.int .i64 br9, .int .i64 bn9])) (fun i _ => nn - (intOf i).toNat)
  case atStart => exact ⟨0, Nat.zero_le _, rfl, HI0⟩
  case round =>
    obtain ⟨j, hj, rfl, HI⟩ := hrel
    by_cases hlt : j < nn
    · obtain ⟨x, hx⟩ : ∃ x, xs[j]? = some x := ⟨xs[j]'(by have := HN.out; omega), List.getElem?_eq_getElem _⟩
      obtain ⟨⟨v, hA, hok, hvn, hbw, hba⟩, hkc, hkb⟩ := HI.out
      obtain ⟨b, o, rfl, hcells, hslw, hxok⟩ := HS.out j x hx
      obtain ⟨kind, ep0, br, bn, ep, OA, ocap, ol, veto⟩ := x
      obtain ⟨hb1, hb2, hb3, hb4, hcap, hcap9⟩ := hxok
      simp only at hcap hcap9 hslw hvn
      obtain ⟨nl, hnl⟩ : ∃ nl, nl = ol.length := ⟨_, rfl⟩
      have HBW := Lib.hid hbw
      have q0 := hcells 0 (by decide)
      have q1 := hcells 1 (by decide)
      have q2 := hcells 2 (by decide)
      have q3 := hcells 3 (by decide)
      have q4 := hcells 4 (by decide)
      have q5 := hcells 5 (by decide)
      have q6 := hcells 6 (by decide)
      simp [Op13.vals] at q0 q1 q2 q3 q4 q5 q6
      rw [← hnl] at q5
      have y0 : ∀ W, Frm (oneA a) wr W → W.cell? _ = _ := fun W h => cell_stay (Frm.step HBW.out h HBW.out.size (fun k hk => by rw [hk]; exact HBA0.out)) q0
      have y1 : ∀ W, Frm (oneA a) wr W → W.cell? _ = _ := fun W h => cell_stay (Frm.step HBW.out h HBW.out.size (fun k hk => by rw [hk]; exact HBA0.out)) q1
      have y2 : ∀ W, Frm (oneA a) wr W → W.cell? _ = _ := fun W h => cell_stay (Frm.step HBW.out h HBW.out.size (fun k hk => by rw [hk]; exact HBA0.out)) q2
      have y3 : ∀ W, Frm (oneA a) wr W → W.cell? _ = _ := fun W h => cell_stay (Frm.step HBW.out h HBW.out.size (fun k hk => by rw [hk]; exact HBA0.out)) q3
      have y4 : ∀ W, Frm (oneA a) wr W → W.cell? _ = _ := fun W h => cell_stay (Frm.step HBW.out h HBW.out.size (fun k hk => by rw [hk]; exact HBA0.out)) q4
      have y5 : ∀ W, Frm (oneA a) wr W → W.cell? _ = _ := fun W h => cell_stay (Frm.step HBW.out h HBW.out.size (fun k hk => by rw [hk]; exact HBA0.out)) q5
      have y6 : ∀ W, Frm (oneA a) wr W → W.cell? _ = _ := fun W h => cell_stay (Frm.step HBW.out h HBW.out.size (fun k hk => by rw [hk]; exact HBA0.out)) q6
      have z0 := y0 wr (Frm.refl _ _)
      have z4 := y4 wr (Frm.refl _ _)
      have z5 := y5 wr (Frm.refl _ _)
      have HAr := Lib.hid hA
      have HOK := Lib.hid hok
      have HVN := Lib.hid hvn
      have HNA := Lib.hid (sl_na hslw hba)
      have HSLV : Hid (∀ V, Below w.heap.size w V → Sl i64 V OA ol) := fun V hV => hslw.stay hV
      have HNL := Lib.hid hnl
      have HKC := Lib.hid hkc
      have HKB := Lib.hid hkb
      have HCAP : Hid (ol.length ≤ ocap) := hcap
      have hj1 : (j : Int) < (nn : Int) := by omega
      have hj0 : (0 : Int) ≤ (j : Int) := by omega
      clear hcells hslw hA hok hvn hbw hba hx hnl hcap HI hb1 hb2 hb3 hb4 hkc hkb q0 q1 q2 q3 q4 q5 q6
      by_cases g2 : (8 : Int) < (nl : Int)
      · clear y0 y1 y2 y3 y4 y5 y6
        go_wp2_with (go_at_call 31; (with_reducible refine (HTO.out _).mono ?_); rintro e wt ⟨rfl, hx⟩; have KT : Hid (Below w.heap.size w wt) := Below.trans HBW.out (Below.mono hx HBW.out.size); clear hx)
        try go_ret
        exact hD.out _ _ ⟨rfl, KT.out⟩
      have HNL8 : Hid (ol.length ≤ 8) := by (show _ ≤ _); have := HNL.out; omega
      have HREL : Hid (∀ V v2, AAt V a v2 → AOk v2 → v2.n = 4 → Frm (oneA a) wr V → RsI w V a 4 ∧ Blk V w.heap.size 26 #[.int .i64 ep9, .slice A9 N9 cap9] ∧ Blk V (w.heap.size + 1) 23 #[.int .i64 br9, .int .i64 bn9]) := fun V v2 h1 h2 h3 h4 => ⟨⟨v2, h1, h2, h3, Frm.step HBW.out h4 HBW.out.size (fun k hk => by rw [hk]; exact HBA0.out), HBA0.out⟩, HKC.out.frm h4 HNB.out.1, HKB.out.frm h4 HNB.out.2⟩
      have HADJ : Hid (∀ N V, RsI w V a 4 ∧ Blk V w.heap.size 26 #[.int .i64 ep9, .slice A9 N9 cap9] ∧ Blk V (w.heap.size + 1) 23 #[.int .i64 br9, .int .i64 bn9] → RsI w (V.drewN N) a 4 ∧ Blk (V.drewN N) w.heap.size 26 #[.int .i64 ep9, .slice A9 N9 cap9] ∧ Blk (V.drewN N) (w.heap.size + 1) 23 #[.int .i64 br9, .int .i64 bn9]) := fun N V h => ⟨h.1.drewN, h.2.1.stay ((Ext.refl _).drewN), h.2.2.stay ((Ext.refl _).drewN)⟩
      have E0 : Hid (Frm (oneA a) wr wr.drew) := (Frm.refl _ _).drew
      have HAd : Hid (AAt wr.drew a v) := HAr.out.stay ((Ext.refl _).drewR)
      have HBd : Hid (Below w.heap.size w wr.drew) := HBW.out.drew
      by_cases k0 : kind = 0
      · subst k0
        go_wp2_with fail
        refine rz_begin (oneA a) [] (by kernel_rfl) ?_
        refine rz_take [11] (i := 0) (v := ?_) rfl (by kernel_rfl) (by kernel_rfl) (by kernel_rfl) (by kernel_rfl) (by kernel_rfl) (by kernel_rfl) (fun _ _ _ h => h) (by rfl) ?_ ?_
        rotate_left
        · intro W hW; have hW0 := Frm.tr E0.out hW; clear hW; go_simp <;> with_reducible rfl
        try simp only [Act.put, List.setIfInBounds_toArray, List.set_cons_zero, List.set_cons_succ]
        refine rz_take [3, 4, 5, 11] (i := 1) (v := ?_) rfl (by kernel_rfl) (by kernel_rfl) (by kernel_rfl) (by kernel_rfl) (by kernel_rfl) (by kernel_rfl) (fun _ _ _ h => h) (by rfl) ?_ ?_
        rotate_left
        · intro W hW; have hW0 := Frm.tr E0.out hW; clear hW; go_simp <;> with_reducible rfl
        try simp only [Act.put, List.setIfInBounds_toArray, List.set_cons_zero, List.set_cons_succ]
        refine rz_take [3, 4, 5, 11] (i := 2) (v := ?_) rfl (by kernel_rfl) (by kernel_rfl) (by kernel_rfl) (by kernel_rfl) (by kernel_rfl) (by kernel_rfl) (fun _ _ _ h => h) (by rfl) ?_ ?_
        rotate_left
        · intro W hW; have hW0 := Frm.tr E0.out hW; clear hW; go_simp <;> with_reducible rfl
        try simp only [Act.put, List.setIfInBounds_toArray, List.set_cons_zero, List.set_cons_succ]
        refine rz_take [4, 5, 11] (i := 3) (v := ?_) rfl (by kernel_rfl) (by kernel_rfl) (by kernel_rfl) (by kernel_rfl) (by kernel_rfl) (by kernel_rfl) (fun _ _ _ h => h) (by rfl) ?_ ?_
        rotate_left
        · intro W hW; have hW0 := Frm.tr E0.out hW; clear hW; go_simp <;> with_reducible rfl
        try simp only [Act.put, List.setIfInBounds_toArray, List.set_cons_zero, List.set_cons_succ]
        refine rz_take [5, 11] (i := 4) (v := ?_) rfl (by kernel_rfl) (by kernel_rfl) (by kernel_rfl) (by kernel_rfl) (by kernel_rfl) (by kernel_rfl) (fun _ _ _ h => h) (by rfl) ?_ ?_
        rotate_left
        · intro W hW; have hW0 := Frm.tr E0.out hW; clear hW; go_simp <;> with_reducible rfl
        try simp only [Act.put, List.setIfInBounds_toArray, List.set_cons_zero, List.set_cons_succ]
        refine rz_take [11] (i := 5) (v := ?_) rfl (by kernel_rfl) (by kernel_rfl) (by kernel_rfl) (by kernel_rfl) (by kernel_rfl) (by kernel_rfl) (fun _ _ _ h => h) (by rfl) ?_ ?_
        rotate_left
        · intro W hW; have hW0 := Frm.tr E0.out hW; clear hW; go_simp <;> with_reducible rfl
        try simp only [Act.put, List.setIfInBounds_toArray, List.set_cons_zero, List.set_cons_succ]
        refine rz_take [8, 9, 10, 11] (i := 6) (v := ?_) rfl (by kernel_rfl) (by kernel_rfl) (by kernel_rfl) (by kernel_rfl) (by kernel_rfl) (by kernel_rfl) (fun _ _ _ h => h) (by rfl) ?_ ?_
        rotate_left
        · intro W hW; have hW0 := Frm.tr E0.out hW; clear hW; go_simp <;> with_reducible rfl
        try simp only [Act.put, List.setIfInBounds_toArray, List.set_cons_zero, List.set_cons_succ]
        refine rz_take [8, 9, 10, 11] (i := 7) (v := ?_) rfl (by kernel_rfl) (by kernel_rfl) (by kernel_rfl) (by kernel_rfl) (by kernel_rfl) (by kernel_rfl) (fun _ _ _ h => h) (by rfl) ?_ ?_
        rotate_left
        · intro W hW; have hW0 := Frm.tr E0.out hW; clear hW; go_simp <;> with_reducible rfl
        try simp only [Act.put, List.setIfInBounds_toArray, List.set_cons_zero, List.set_cons_succ]
        refine rz_take [9, 10, 11] (i := 8) (v := ?_) rfl (by kernel_rfl) (by kernel_rfl) (by kernel_rfl) (by kernel_rfl) (by kernel_rfl) (by kernel_rfl) (fun _ _ _ h => h) (by rfl) ?_ ?_
        rotate_left
        · intro W hW; have hW0 := Frm.tr E0.out hW; clear hW; go_simp <;> with_reducible rfl
        try simp only [Act.put, List.setIfInBounds_toArray, List.set_cons_zero, List.set_cons_succ]
        refine rz_take [10, 11] (i := 9) (v := ?_) rfl (by kernel_rfl) (by kernel_rfl) (by kernel_rfl) (by kernel_rfl) (by kernel_rfl) (by kernel_rfl) (fun _ _ _ h => h) (by rfl) ?_ ?_
        rotate_left
        · intro W hW; have hW0 := Frm.tr E0.out hW; clear hW; go_simp <;> with_reducible rfl
        try simp only [Act.put, List.setIfInBounds_toArray, List.set_cons_zero, List.set_cons_succ]
        refine rz_take [11] (i := 10) (v := ?_) rfl (by kernel_rfl) (by kernel_rfl) (by kernel_rfl) (by kernel_rfl) (by kernel_rfl) (by kernel_rfl) (fun _ _ _ h => h) (by rfl) ?_ ?_
        rotate_left
        · intro W hW; have hW0 := Frm.tr E0.out hW; clear hW; go_simp <;> with_reducible rfl
        try simp only [Act.put, List.setIfInBounds_toArray, List.set_cons_zero, List.set_cons_succ]
        refine rz_call (i := 11) rfl (by kernel_rfl) (by rfl) (fun K hK => ?_)
        go_simp
        go_at_call 27
        have hq := prep_any a v ep0 br bn wr.drew HAd.out HOK.out
        with_reducible refine hq.mono ?_
        clear hq
        rintro e w3 ⟨A', c', rfl, hin, hA, hf⟩
        refine hK _ _ hf ?_; clear hK K
        have HE := Lib.hid (HREL.out w3 _ hA (HOK.out.prep _ _ _) (by unfold prepV; split <;> exact HVN.out) (Frm.tr E0.out hf))
        clear hA hf
        try simp only [Act.put, List.setIfInBounds_toArray, List.set_cons_zero, List.set_cons_succ]
        refine rz_done (by kernel_rfl) ?_ _
        clear y0 y1 y2 y3 y4 y5 y6 z0 z4 z5
        go_wp2_with fail
        go_roundw
        case rel => exact ⟨j + 1, by omega, by go_num, by first | exact HE | exact HADJ.out _ _ HE.out⟩
        case measure => simp [intOf]; omega
      · by_cases k1 : kind = 1
        · subst k1
          go_wp2_with fail
          refine rz_begin (oneA a) [] (by kernel_rfl) ?_
          refine rz_take [11] (i := 0) (v := ?_) rfl (by kernel_rfl) (by kernel_rfl) (by kernel_rfl) (by kernel_rfl) (by kernel_rfl) (by kernel_rfl) (fun _ _ _ h => h) (by rfl) ?_ ?_
          rotate_left
          · intro W hW; have hW0 := Frm.tr E0.out hW; clear hW; go_simp <;> with_reducible rfl
          try simp only [Act.put, List.setIfInBounds_toArray, List.set_cons_zero, List.set_cons_succ]
          refine rz_take [3, 4, 5, 11] (i := 1) (v := ?_) rfl (by kernel_rfl) (by kernel_rfl) (by kernel_rfl) (by kernel_rfl) (by kernel_rfl) (by kernel_rfl) (fun _ _ _ h => h) (by rfl) ?_ ?_
          rotate_left
          · intro W hW; have hW0 := Frm.tr E0.out hW; clear hW; go_simp <;> with_reducible rfl
          try simp only [Act.put, List.setIfInBounds_toArray, List.set_cons_zero, List.set_cons_succ]
          refine rz_take [3, 4, 5, 11] (i := 2) (v := ?_) rfl (by kernel_rfl) (by kernel_rfl) (by kernel_rfl) (by kernel_rfl) (by kernel_rfl) (by kernel_rfl) (fun _ _ _ h => h) (by rfl) ?_ ?_
          rotate_left
          · intro W hW; have hW0 := Frm.tr E0.out hW; clear hW; go_simp <;> with_reducible rfl
          try simp only [Act.put, List.setIfInBounds_toArray, List.set_cons_zero, List.set_cons_succ]
          refine rz_take [4, 5, 11] (i := 3) (v := ?_) rfl (by kernel_rfl) (by kernel_rfl) (by kernel_rfl) (by kernel_rfl) (by kernel_rfl) (by kernel_rfl) (fun _ _ _ h => h) (by rfl) ?_ ?_
          rotate_left
          · intro W hW; have hW0 := Frm.tr E0.out hW; clear hW; go_simp <;> with_reducible rfl
          try simp only [Act.put, List.setIfInBounds_toArray, List.set_cons_zero, List.set_cons_succ]
          refine rz_take [5, 11] (i := 4) (v := ?_) rfl (by kernel_rfl) (by kernel_rfl) (by kernel_rfl) (by kernel_rfl) (by kernel_rfl) (by kernel_rfl) (fun _ _ _ h => h) (by rfl) ?_ ?_
          rotate_left
          · intro W hW; have hW0 := Frm.tr E0.out hW; clear hW; go_simp <;> with_reducible rfl
          try simp only [Act.put, List.setIfInBounds_toArray, List.set_cons_zero, List.set_cons_succ]
          refine rz_take [11] (i := 5) (v := ?_) rfl (by kernel_rfl) (by kernel_rfl) (by kernel_rfl) (by kernel_rfl) (by kernel_rfl) (by kernel_rfl) (fun _ _ _ h => h) (by rfl) ?_ ?_
          rotate_left
          · intro W hW; have hW0 := Frm.tr E0.out hW; clear hW; go_simp <;> with_reducible rfl
          try simp only [Act.put, List.setIfInBounds_toArray, List.set_cons_zero, List.set_cons_succ]
          refine rz_take [8, 9, 10, 11] (i := 6) (v := ?_) rfl (by kernel_rfl) (by kernel_rfl) (by kernel_rfl) (by kernel_rfl) (by kernel_rfl) (by kernel_rfl) (fun _ _ _ h => h) (by rfl) ?_ ?_
          rotate_left
          · intro W hW; have hW0 := Frm.tr E0.out hW; clear hW; go_simp <;> with_reducible rfl
          try simp only [Act.put, List.setIfInBounds_toArray, List.set_cons_zero, List.set_cons_succ]
          refine rz_take [8, 9, 10, 11] (i := 7) (v := ?_) rfl (by kernel_rfl) (by kernel_rfl) (by kernel_rfl) (by kernel_rfl) (by kernel_rfl) (by kernel_rfl) (fun _ _ _ h => h) (by rfl) ?_ ?_
          rotate_left
          · intro W hW; have hW0 := Frm.tr E0.out hW; clear hW; go_simp <;> with_reducible rfl
          try simp only [Act.put, List.setIfInBounds_toArray, List.set_cons_zero, List.set_cons_succ]
          refine rz_take [9, 10, 11] (i := 8) (v := ?_) rfl (by kernel_rfl) (by kernel_rfl) (by kernel_rfl) (by kernel_rfl) (by kernel_rfl) (by kernel_rfl) (fun _ _ _ h => h) (by rfl) ?_ ?_
          rotate_left
          · intro W hW; have hW0 := Frm.tr E0.out hW; clear hW; go_simp <;> with_reducible rfl
          try simp only [Act.put, List.setIfInBounds_toArray, List.set_cons_zero, List.set_cons_succ]
          refine rz_take [10, 11] (i := 9) (v := ?_) rfl (by kernel_rfl) (by kernel_rfl) (by kernel_rfl) (by kernel_rfl) (by kernel_rfl) (by kernel_rfl) (fun _ _ _ h => h) (by rfl) ?_ ?_
          rotate_left
          · intro W hW; have hW0 := Frm.tr E0.out hW; clear hW; go_simp <;> with_reducible rfl
          try simp only [Act.put, List.setIfInBounds_toArray, List.set_cons_zero, List.set_cons_succ]
          refine rz_take [11] (i := 10) (v := ?_) rfl (by kernel_rfl) (by kernel_rfl) (by kernel_rfl) (by kernel_rfl) (by kernel_rfl) (by kernel_rfl) (fun _ _ _ h => h) (by rfl) ?_ ?_
          rotate_left
          · intro W hW; have hW0 := Frm.tr E0.out hW; clear hW; go_simp <;> with_reducible rfl
          try simp only [Act.put, List.setIfInBounds_toArray, List.set_cons_zero, List.set_cons_succ]
          refine rz_call (i := 11) rfl (by kernel_rfl) (by rfl) (fun K hK => ?_)
          go_simp
          go_at_call 32
          have hq := acc_any a v ep br bn OA ocap ol false wr.drew HAd.out HOK.out (by have := HNL8.out; omega) HCAP.out (HSLV.out _ HBd.out) HNA.out
          rw [← HNL.out] at hq
          with_reducible refine hq.mono ?_
          clear hq
          rintro e w3 ⟨rfl, hA, hf⟩
          refine hK _ _ hf ?_; clear hK K
          have HE := Lib.hid (HREL.out w3 _ hA (HOK.out.acc _ _ _ _ _) (by unfold accV; split <;> exact HVN.out) (Frm.tr E0.out hf))
          clear hA hf
          try simp only [Act.put, List.setIfInBounds_toArray, List.set_cons_zero, List.set_cons_succ]
          refine rz_done (by kernel_rfl) ?_ _
          clear y0 y1 y2 y3 y4 y5 y6 z0 z4 z5
          go_wp2_with fail
          go_roundw
          case rel => exact ⟨j + 1, by omega, by go_num, by first | exact HE | exact HADJ.out _ _ HE.out⟩
          case measure => simp [intOf]; omega
        · go_wp2_with fail
          go_at_call 28
          have hq := learn_any a v ep OA ocap ol wr HAr.out HOK.out (by have := HNL8.out; omega) HCAP.out (HSLV.out _ HBW.out) HNA.out
          rw [← HNL.out] at hq
          with_reducible refine hq.mono ?_
          clear hq
          rintro e w3 ⟨rfl, hA, hf⟩
          have HE := Lib.hid (HREL.out w3 _ hA (HOK.out.learn _ _) (by unfold learnV; split <;> exact HVN.out) hf)
          clear hA hf
          clear y0 y1 y2 y3 y4 y5 y6 z0 z4 z5
          go_wp2_with fail
          go_roundw
          case rel => exact ⟨j + 1, by omega, by go_num, by first | exact HE | exact HADJ.out _ _ HE.out⟩
          case measure => simp [intOf]; omega
    · have h3 : ¬ (j : Int) < (nn : Int) := by omega
      obtain ⟨⟨v, hA, hok, hvn, hbw, hba⟩, hkc, hkb⟩ := HI.out
      have HOK := Lib.hid hok
      have HA := Lib.hid hA
      have HKC := Lib.hid hkc
      have HKB := Lib.hid hkb
      have HBW := Lib.hid hbw
      have HLAW := Lib.hid (veto_law v ep9 l9 br9 bn9)
      have HNA := Lib.hid (sl_na HS9.out HBA0.out)
      have CBY : Hid (∀ V, AAt V a v → Calls Try.prog 37 #[.pointer (some ⟨a, 0, none⟩)] V fun e w' => ∃ A c, e = .returned (.slice A (bytesA v).length c) ∧ Sl u8 w' A (bytesA v) ∧ Ext V w') := fun V h => bytesA_any a v V h HOK.out
      have CA1 : Hid (∀ V, AAt V a v → Below w.heap.size w V → Calls Try.prog 32 #[.pointer (some ⟨a, 0, none⟩), .agg #[.int .i64 ep9, .slice A9 N9 cap9], .agg #[.int .i64 br9, .int .i64 bn9], .bool true] V fun e w' => e = .returned (.int .i64 (accE v ep9 l9 br9 bn9 true)) ∧ AAt w' a (accV v ep9 l9 br9 bn9 true) ∧ Frm (oneA a) V w') := fun V h hb => by rw [HN9.out]; exact acc_any a v ep9 br9 bn9 A9 cap9 l9 true V h HOK.out (by have := HL8.out; omega) HCAP9.out (HS9.out.stay hb) HNA.out
      have CA2 : Hid (∀ V, AAt V a v → Below w.heap.size w V → Calls Try.prog 32 #[.pointer (some ⟨a, 0, none⟩), .agg #[.int .i64 ep9, .slice A9 N9 cap9], .agg #[.int .i64 br9, .int .i64 bn9], .bool false] V fun e w' => e = .returned (.int .i64 (accE v ep9 l9 br9 bn9 false)) ∧ Frm (oneA a) V w') := fun V h hb => by rw [HN9.out]; exact (acc_any a v ep9 br9 bn9 A9 cap9 l9 false V h HOK.out (by have := HL8.out; omega) HCAP9.out (HS9.out.stay hb) HNA.out).mono fun e w' ⟨h1, _, h2⟩ => ⟨h1, h2⟩
      have HSAME : Hid (¬ accE v ep9 l9 br9 bn9 true = 0 → accV v ep9 l9 br9 bn9 true = v) := fun h => by unfold accV; rw [if_neg h]
      generalize hfE : accE v ep9 l9 br9 bn9 true = fE at *
      generalize hgE : accE v ep9 l9 br9 bn9 false = gE at *
      have hf0 : ¬ fE = 0 := by have := HLAW.out; omega
      have HSM := Lib.hid (HSAME.out hf0)
      rw [HSM.out] at CA1
      obtain ⟨SB, hSB⟩ : ∃ S, S = bytesA v := ⟨_, rfl⟩
      rw [← hSB] at CBY
      obtain ⟨ns, hns⟩ : ∃ n, n = SB.length := ⟨_, rfl⟩
      rw [← hns] at CBY
      have HNS := Lib.hid hns
      have HCV : Hid (∀ V A c, Sl u8 V A SB → (convert 72 9 (.slice A ns c)).run Try.prog V = .ok (.string (str SB)) V) := fun V A c h => by rw [HNS.out]; exact run_str _ _ 5 A SB c Try.underlying72 Try.underlying5 Try.underlying9 h
      have hlaw := HLAW.out
      clear hA hok hvn hbw hba hkc hkb HI hSB hns HSAME hfE hgE HLAW HSM
      have hcases : (fE = 8 ∧ gE = 0) ∨ (gE = fE ∧ ¬ fE = 8) := by omega
      clear hlaw
      rcases hcases with ⟨rfl, rfl⟩ | ⟨rfl, h8⟩
      all_goals
        go_wp2_with (first
          | (go_at_call 32; (with_reducible refine (CA2.out _ A4.out B4.out).mono ?_); rintro e w5 ⟨rfl, hf⟩; have B5 : Hid (Below w.heap.size w w5) := Frm.step B4.out hf B4.out.size (fun k hk => by rw [hk]; exact HBA0.out); clear hf)
          | (go_at_call 37; (with_reducible refine (CBY.out _ A3.out).mono ?_); rintro e w4 ⟨A', c', rfl, hs, hx⟩; have hcv2 := HCV.out w4 A' c' hs; have A4 := Lib.hid (A3.out.stay hx); have B4 : Hid (Below w.heap.size w w4) := Below.trans B3.out (Below.mono hx B3.out.size); have d0 := (KC3.out.stay hx).cell 0; have d1 := (KC3.out.stay hx).cell 1; have d2 := (KB3.out.stay hx).cell 0; have d3 := (KB3.out.stay hx).cell 1; simp at d0 d1 d2 d3; clear hs hx)
          | (go_at_call 32; (with_reducible refine (CA1.out _ A2.out B2.out).mono ?_); rintro e w3 ⟨rfl, hA, hf⟩; have A3 := Lib.hid hA; have B3 : Hid (Below w.heap.size w w3) := Frm.step B2.out hf B2.out.size (fun k hk => by rw [hk]; exact HBA0.out); have KC3 := Lib.hid (KC2.out.frm hf HNB.out.1); have KB3 := Lib.hid (KB2.out.frm hf HNB.out.2); clear hA hf)
          | (go_at_call 37; (with_reducible refine (CBY.out _ HA.out).mono ?_); rintro e w2 ⟨A', c', rfl, hs, hx⟩; have hcv1 := HCV.out w2 A' c' hs; have A2 := Lib.hid (HA.out.stay hx); have B2 : Hid (Below w.heap.size w w2) := Below.trans HBW.out (Below.mono hx HBW.out.size); have KC2 := Lib.hid (HKC.out.stay hx); have KB2 := Lib.hid (HKB.out.stay hx); have d0 := KC2.out.cell 0; have d1 := KC2.out.cell 1; have d2 := KB2.out.cell 0; have d3 := KB2.out.cell 1; simp at d0 d1 d2 d3; clear hs hx)
          | (go_at_call 31; (with_reducible refine (HTO.out _).mono ?_); rintro e wt ⟨rfl, hx⟩; have KT : Hid (Below w.heap.size w wt) := Below.trans B5.out (Below.mono hx B5.out.size); clear hx))
        try go_ret
        exact hD.out _ _ ⟨by first | rfl | exact ret_bool (by simp [h8]), KT.out⟩

set_option maxRecDepth 100000 in
theorem law_acceptVetoes {H : Type} {enc : TypeId × Value → H} (W : World) (base : Nat) (args : Array Value) (ds : List (DataW H)) (p : List MemPlace)
    (hval : ∀ (j : Nat) t v, Try.f8.params[j]? = some t → args[j]? = some v → Value.okWide Try.prog W .any base t v)
    (hA : DataW.TrodAll enc Try.prog W 0 (fun _ => true) true Try.f8.params.toList args.toList ds p) :
    Calls Try.prog 8 args W fun e W' => e = .returned (.bool true) ∧ Below W.heap.size W W' := by
  rw [Try.params8] at hA hval
  obtain ⟨v0, vs0, d0, ds0, p0, q0, hargs, rfl, rfl, h0, r0⟩ := trodAll_cons hA
  obtain ⟨v1, vs1, d1, ds1, p1, q1, rfl, rfl, rfl, h1, r1⟩ := trodAll_cons r0
  obtain ⟨v2, vs2, d2, ds2, p2, q2, rfl, rfl, rfl, h2, r2⟩ := trodAll_cons r1
  obtain ⟨rfl, rfl, rfl⟩ := trodAll_nil r2
  obtain rfl : args = #[v0, v1, v2] := by cases args; simp_all
  obtain ⟨A0, n0, c0, rfl⟩ := okWide_slice Try.underlying57 (hval 0 57 v0 rfl rfl)
  obtain ⟨fuel0, hf0⟩ := h0
  obtain ⟨B0, l0, e0, hcs0, x0, y0, z0⟩ := open_ops13 hf0
  simp only [Value.cells, List.cons.injEq, Value.slice.injEq, and_true] at hcs0
  obtain ⟨rfl, rfl, rfl⟩ := hcs0
  obtain ⟨ep1, A1, c1, l1, rfl, w1, x1, y1, z1, g1⟩ := open_chain (hval 1 26 v1 rfl rfl) h1
  obtain ⟨r2_, n2, rfl, wr2, wn2⟩ := open_bal (hval 2 23 v2 rfl rfl) h2
  exact walk_acceptVetoes A0 l0 c0 ep1 A1 c1 l1 r2_ n2 W x0 (Nat.le_trans x0 y0) z0 x1 (Nat.le_trans x1 y1) z1

end Go.Proofs.Ytkdcbidbciognaa
