/-
  The walk of the law WalBack.
-/
import Derived.Test.YtgcclkdlomifcaaWalTwo
import Derived.Laws.Concat
namespace Go.Proofs.Ytgcclkdlomifcaa
set_option linter.unusedVariables false
set_option linter.unusedSimpArgs false
open Go.RowKit Go.ChangeShapes Go.WideShapes

theorem Ext.drewR_of {w w1 : World} (h : Ext w w1) : Ext w.drew w1.drew := ⟨h.os, h.tape, h.output, h.size, h.block⟩
theorem str_app (a b : List UInt8) : str (a ++ b) = str a ++ str b := by
  apply ByteArray.ext
  rw [ByteArray.data_append]
  simp [str]

set_option maxRecDepth 100000 in
set_option maxHeartbeats 32000000 in
theorem walk_walBack (A : Option Addr) (l : List (List UInt8)) (cap : Nat) (at_ : Int) (w : World) (hn : l.length ≤ 9223372036854775807) (hs : Sls w A l) (hlx : ∀ x ∈ l, x.length ≤ 9223372036854775807) :
    Calls Try.prog 4 #[.slice A l.length cap, .int .i64 at_] w fun e w' => e = .returned (.bool true) ∧ Below w.heap.size w w' := by
  refine hide_post fun DP hD => ?_
  have HTO : Hid (∀ V, Calls Try.prog 14 #[] V fun e w' => e = .returned (.bool true) ∧ Ext V w') := told8
  have HS := Lib.hid hs
  have HLX := Lib.hid hlx
  obtain ⟨n, hln⟩ : ∃ n, n = l.length := ⟨_, rfl⟩
  rw [← hln] at hn ⊢
  have HLN := Lib.hid hln
  clear hs hln hlx
  by_cases h12 : (12 : Int) < (n : Int)
  · go_enter Try.func4, Try.ntmps4
    go_wp2_with (go_at_call 14; (with_reducible refine (HTO.out _).mono ?_); rintro e w1 ⟨rfl, hx⟩; have HX := Lib.hid hx; clear hx)
    try go_ret
    exact hD.out _ _ ⟨rfl, HX.out⟩
  have hn12 : n ≤ 12 := by omega
  have HN12 := Lib.hid hn12
  go_enter Try.func4, Try.ntmps4
  go_wp2
  go_loopw [5, 6, 7, 8] (fun t e a i wr => ∃ (j : Nat) (A6 : Option Addr) (c6 : Nat) (A7 : Option Addr) (c7 : Nat), j ≤ n ∧ t = .string (str (catB (l.take j))) ∧ e = .slice A6 j c6 ∧ a = .slice A7 j c7 ∧ i = .int .i64 j ∧ Hid (∀ x ∈ l.take j, 1 ≤ x.length ∧ x.length ≤ 100) ∧ Hid (Two w wr j A6 c6 (endsZ (l.take j)) A7 c7 (l.take j))) (fun _ _ _ i _ => n - (intOf i).toNat)
  case atStart => exact ⟨0, none, 0, none, 0, by omega, rfl, rfl, rfl, rfl, (fun x hx => by simp at hx), Two.nil w⟩
  case round =>
    obtain ⟨j, A6, c6, A7, c7, hj, rfl, rfl, rfl, rfl, HOK, HT⟩ := hrel
    by_cases hlt : j < n
    · obtain ⟨x, hx⟩ : ∃ x, l[j]? = some x := ⟨_, List.getElem?_eq_getElem (by rw [← HLN.out]; exact hlt)⟩
      obtain ⟨b, o, A', c', rfl, q0, qs⟩ := HS.out j x hx
      have htk : l.take (j + 1) = l.take j ++ [x] := by rw [List.take_add_one, hx]; rfl
      obtain ⟨P, hP⟩ : ∃ P, P = l.take j := ⟨_, rfl⟩
      rw [← hP] at HT HOK htk ⊢
      have HPN : Hid (l.take (j + 1) = P ++ [x]) := htk
      have hPl : P.length = j := by rw [hP, List.length_take]; have := HLN.out; omega
      have HPL := Lib.hid hPl
      have HC0 : Hid (∀ V, Ext w V → V.cell? ⟨b, o + j, none⟩ = some (.slice A' x.length c')) := fun V h => cell_stay h q0
      have HSX : Hid (∀ V, Ext w V → Sl Go.Proofs.Ytgcclkdlomifcaa.u8 V A' x) := fun V h => qs.stay h
      have c0 := HC0.out wr HT.out.x
      have hj0 : (0 : Int) ≤ (j : Int) := by omega
      have hjn : (j : Int) < (n : Int) := by omega
      have HXJ := Lib.hid hx
      clear q0 qs hx htk hP hPl
      obtain ⟨xn, hxn⟩ : ∃ xn, xn = x.length := ⟨_, rfl⟩
      rw [← hxn] at c0 HC0
      have g3 : xn ≤ 9223372036854775807 := by rw [hxn]; exact HLX.out x (List.mem_of_getElem? HXJ.out)
      have HXN := Lib.hid hxn
      have CN : Hid (xn < 1 ∨ 4096 < xn → xn ≤ 9223372036854775807 → Calls Try.prog 15 #[.slice A' xn c'] wr fun e w' => e = .returned (.tuple #[.slice none 0 0, .int .i64 1]) ∧ wr = w') := fun h h2 => frame_no A' c' xn wr h2 h
      have CY : Hid (1 ≤ xn → xn ≤ 4096 → Calls Try.prog 15 #[.slice A' xn c'] wr fun e w' => ∃ A9 c9, e = .returned (.tuple #[.slice A9 (xn + 6) c9, .int .i64 0]) ∧ Sl Go.Proofs.Ytgcclkdlomifcaa.u8 w' A9 (frameB x) ∧ Ext wr w') := fun h1 h2 => by
        have := frame_yes A' c' x wr (HSX.out wr HT.out.x) (by have := HXN.out; omega) (by have := HXN.out; omega)
        rw [← HXN.out] at this
        exact this.mono fun e w' ⟨A9, c9, h3, h4, h5⟩ => ⟨A9, c9, h3, by
          obtain ⟨A8, c8, e, hs⟩ := own_view (l := frameB x) (by rw [frameB_len, ← HXN.out]; exact h4)
          injection e with e1 e2 e3
          subst e1
          exact hs, h5⟩
      clear hxn
      by_cases g1 : (xn : Int) < 1
      · replace CN := Lib.hid (CN.out (.inl (by omega)) (by omega))
        clear CY
        go_wp2_with (first | (go_at_call 15; (with_reducible refine CN.out.mono ?_); rintro e w2 ⟨rfl, rfl⟩) | (go_at_call 14; (with_reducible refine (HTO.out _).mono ?_); rintro e w3 ⟨rfl, hx⟩; have HX := Lib.hid hx; clear hx))
        try go_ret
        exact hD.out _ _ ⟨rfl, Ext.trans HT.out.x HX.out⟩
      by_cases g2 : (4096 : Int) < (xn : Int)
      · replace CN := Lib.hid (CN.out (.inr (by omega)) (by omega))
        have g2' : (100 : Int) < (xn : Int) := by omega
        clear CY
        go_wp2_with (first | (go_at_call 15; (with_reducible refine CN.out.mono ?_); rintro e w2 ⟨rfl, rfl⟩) | (go_at_call 14; (with_reducible refine (HTO.out _).mono ?_); rintro e w3 ⟨rfl, hx⟩; have HX := Lib.hid hx; clear hx))
        try go_ret
        exact hD.out _ _ ⟨rfl, Ext.trans HT.out.x HX.out⟩
      replace CY := Lib.hid (CY.out (by omega) (by omega))
      clear CN
      by_cases g4 : (100 : Int) < (xn : Int)
      · go_wp2_with (first | (go_at_call 15; (with_reducible refine CY.out.mono ?_); rintro e w2 ⟨A9, c9, rfl, hs9, hx⟩; have c0 := HC0.out w2 (Ext.trans HT.out.x hx); have HX2 := Lib.hid hx; clear hx hs9) | (go_at_call 14; (with_reducible refine (HTO.out _).mono ?_); rintro e w3 ⟨rfl, hx⟩; have HX := Lib.hid hx; clear hx))
        try go_ret
        exact hD.out _ _ ⟨rfl, Ext.trans HT.out.x (Ext.trans HX2.out HX.out)⟩
      have HDL : Hid ((catB P).length ≤ 1300) := by
        have h1 := catB_le P 100 (fun y hy => (HOK.out y hy).2)
        have h2 := HPL.out
        show _ ≤ _
        omega
      have HOK2 : Hid (∀ y ∈ l.take (j + 1), 1 ≤ y.length ∧ y.length ≤ 100) := fun y hy => by
        rw [HPN.out] at hy
        rcases List.mem_append.1 hy with h1 | h1
        · exact HOK.out y h1
        · rw [List.mem_singleton.1 h1, ← HXN.out]; omega
      have HDN : Hid (str (catB (l.take (j + 1))) = str (catB P) ++ str (frameB x)) := by (show _ = _); rw [HPN.out, catB_append, str_app]; simp [catB]
      have hsum : (str (catB P)).size + (str (frameB x)).size ≤ 1000000000 := by (rw [str_size, str_size, frameB_len]); have := HDL.out; have := HXN.out; omega
      have hsz : (str (catB P) ++ str (frameB x)).size = (catB (P ++ [x])).length := by rw [← str_app, str_size, catB_append]; simp [catB]
      obtain ⟨sn, hsn⟩ : ∃ sn, sn = (catB (P ++ [x])).length := ⟨_, rfl⟩
      rw [← hsn] at hsz
      have HSN := Lib.hid hsn
      have hsnb : sn ≤ 1500 := by rw [hsn, catB_append]; simp [catB, frameB_len]; have := HDL.out; have := HXN.out; omega
      clear hsn
      go_wp2_with fail
      go_at_call 15
      with_reducible refine CY.out.mono ?_
      rintro e w2 ⟨A9, c9, rfl, hs9, hx⟩
      have HX2 := Lib.hid hx
      replace HT := Lib.hid (HT.out.ext hx)
      have c0 := HC0.out w2 HT.out.x
      have hcf : (convert 22 9 (.slice A9 (xn + 6) c9)).run Try.prog w2 = .ok (.string (str (frameB x))) w2 := by
        have := run_strB A9 (frameB x) c9 w2 hs9
        rw [frameB_len, ← HXN.out] at this
        exact this
      have hcx : ∀ V, Frm (fun k => w.heap.size ≤ k) w2 V → (convert 22 9 (.slice A' xn c')).run Try.prog V = .ok (.string (str x)) V := fun V h => by
        have := run_strB A' x c' V (HSX.out V (Below.trans HT.out.x (h.below HT.out.x.size (fun k hk => hk))))
        rw [← HXN.out] at this
        exact this
      have fz : ∀ V, Frm (fun k => w.heap.size ≤ k) w2 V → V.cell? ⟨b, o + j, none⟩ = some (.slice A' xn c') := fun V h => HC0.out V (Below.trans HT.out.x (h.below HT.out.x.size (fun k hk => hk)))
      have E0 : Hid (Frm (fun k => w.heap.size ≤ k) w2 w2) := Frm.refl _ _
      clear hx hs9
      go_wp2
      refine rz_begin (fun k => w.heap.size ≤ k) [] (by kernel_rfl) ?_
      have E0 : Hid (Frm (fun k => w.heap.size ≤ k) w2 w2.drew) := Frm.drew E0.out
      replace HT := Lib.hid (HT.out.ext (Ext.drewR (Ext.refl w2)))
      refine rz_take [4, 12, 13, 14] (i := 0) (v := ?_) rfl (by kernel_rfl) (by kernel_rfl) (by kernel_rfl) (by kernel_rfl) (by kernel_rfl) (by kernel_rfl) (fun _ _ _ h => h) (by rfl) ?_ ?_
      rotate_left
      · intro W hW; have hW0 := Frm.tr E0.out hW; clear hW; go_simp <;> with_reducible rfl
      try simp only [Act.put, List.setIfInBounds_toArray, List.set_cons_zero, List.set_cons_succ]
      refine rz_take [2, 3, 4, 12, 13, 14] (i := 1) (v := ?_) rfl (by kernel_rfl) (by kernel_rfl) (by kernel_rfl) (by kernel_rfl) (by kernel_rfl) (by kernel_rfl) (fun _ _ _ h => h) (by rfl) ?_ ?_
      rotate_left
      · intro W hW; have hW0 := Frm.tr E0.out hW; clear hW; go_simp <;> with_reducible rfl
      try simp only [Act.put, List.setIfInBounds_toArray, List.set_cons_zero, List.set_cons_succ]
      refine rz_take [3, 4, 12, 13, 14] (i := 2) (v := ?_) rfl (by kernel_rfl) (by kernel_rfl) (by kernel_rfl) (by kernel_rfl) (by kernel_rfl) (by kernel_rfl) (fun _ _ _ h => h) (by rfl) ?_ ?_
      rotate_left
      · intro W hW; have hW0 := Frm.tr E0.out hW; clear hW; go_simp <;> with_reducible rfl
      try simp only [Act.put, List.setIfInBounds_toArray, List.set_cons_zero, List.set_cons_succ]
      refine rz_take [12, 13, 14] (i := 5) (v := ?_) rfl (by kernel_rfl) (by kernel_rfl) (by kernel_rfl) (by kernel_rfl) (by kernel_rfl) (by kernel_rfl) (fun _ _ _ h => h) (by rfl) ?_ ?_
      rotate_left
      · intro W hW; have hW0 := Frm.tr E0.out hW; clear hW; go_simp <;> with_reducible rfl
      try simp only [Act.put, List.setIfInBounds_toArray, List.set_cons_zero, List.set_cons_succ]
      refine rz_take [8, 9, 10, 11, 12, 13, 14] (i := 6) (v := ?_) rfl (by kernel_rfl) (by kernel_rfl) (by kernel_rfl) (by kernel_rfl) (by kernel_rfl) (by kernel_rfl) (fun _ _ _ h => h) (by rfl) ?_ ?_
      rotate_left
      · intro W hW; have hW0 := Frm.tr E0.out hW; clear hW; go_simp <;> with_reducible rfl
      try simp only [Act.put, List.setIfInBounds_toArray, List.set_cons_zero, List.set_cons_succ]
      refine rz_take [8, 9, 10, 11, 12, 13, 14] (i := 7) (v := ?_) rfl (by kernel_rfl) (by kernel_rfl) (by kernel_rfl) (by kernel_rfl) (by kernel_rfl) (by kernel_rfl) (fun _ _ _ h => h) (by rfl) ?_ ?_
      rotate_left
      · intro W hW; have hW0 := Frm.tr E0.out hW; clear hW; go_simp <;> with_reducible rfl
      try simp only [Act.put, List.setIfInBounds_toArray, List.set_cons_zero, List.set_cons_succ]
      refine rz_take [9, 10, 11, 12, 13, 14] (i := 8) (v := ?_) rfl (by kernel_rfl) (by kernel_rfl) (by kernel_rfl) (by kernel_rfl) (by kernel_rfl) (by kernel_rfl) (fun _ _ _ h => h) (by rfl) ?_ ?_
      rotate_left
      · intro W hW; have hW0 := Frm.tr E0.out hW; clear hW; go_simp <;> with_reducible rfl
      try simp only [Act.put, List.setIfInBounds_toArray, List.set_cons_zero, List.set_cons_succ]
      refine rz_take [10, 11, 12, 13, 14] (i := 9) (v := ?_) rfl (by kernel_rfl) (by kernel_rfl) (by kernel_rfl) (by kernel_rfl) (by kernel_rfl) (by kernel_rfl) (fun _ _ _ h => h) (by rfl) ?_ ?_
      rotate_left
      · intro W hW; have hW0 := Frm.tr E0.out hW; clear hW; go_simp <;> with_reducible rfl
      try simp only [Act.put, List.setIfInBounds_toArray, List.set_cons_zero, List.set_cons_succ]
      refine rz_take [11, 12, 13, 14] (i := 10) (v := .string (str x)) rfl (by kernel_rfl) (by kernel_rfl) (by kernel_rfl) (by kernel_rfl) (by kernel_rfl) (by kernel_rfl) (fun _ _ _ h => h) (by rfl) ?_ ?_
      · intro W hW; have hW0 := Frm.tr E0.out hW; clear hW; have hcw := hcx _ hW0; go_simp; first | done | exact hcw | (rw [hcw])
      try simp only [Act.put, List.setIfInBounds_toArray, List.set_cons_zero, List.set_cons_succ]
      refine rz_two (i := 3) (j := 11) rfl rfl (by kernel_rfl) (by rfl) (by rfl) (fun K hK => ?_) (fun K hK => ?_)
      · go_simp
        refine hK _ _ (Frm.of_alloc _ _ _) ?_; clear hK K
        obtain ⟨v3_1, hv3_1⟩ : ∃ W, W = (w2.alloc (.cells #[.int .i64 (sn : Int)] 3)).drew := ⟨_, rfl⟩
        obtain ⟨g3, hg3⟩ : ∃ g, g = w2.heap.size := ⟨_, rfl⟩
        have K3 : Hid (Blk v3_1 g3 3 #[.int .i64 (sn : Int)]) := by (show Blk _ _ _ _); rw [hv3_1, hg3]; exact Blk.new _ _ _
        have Xv3_1 : Hid (Ext w2.drew v3_1) := by (show Ext _ _); rw [hv3_1]; exact Ext.drewR_of (Ext.alloc _ _)
        have HT := Lib.hid (HT.out.ext Xv3_1.out)
        rw [← hv3_1, ← hg3]
        clear hv3_1 hg3 Xv3_1
        try simp only [Act.put, List.setIfInBounds_toArray, List.set_cons_zero, List.set_cons_succ]
        refine rz_two (i := 4) (j := 11) rfl rfl (by kernel_rfl) (by rfl) (by rfl) (fun K hK => ?_) (fun K hK => ?_)
        · refine wp_append_list (.tmp 57) (.tmp 60) 35 rfl w.heap.size 3 (.int .i64 0) 8 Try.underlying35 info_int rfl (by decide) (.slice A6 j c6) j ((endsZ P).map i64) rfl HT.out.e i64 (some ⟨g3, 0, none⟩) [(sn : Int)] 1 1 rfl rfl (Sl.of_blk K3.out (fun j v hj => by match j, hj with | 0, hj => (simp at hj; subst hj; rfl))) (fun _ => rfl) (by simp; omega) HT.out.x.size ?_
          intro u6 v4_2 o6 g6 _
          refine hK _ _ (Frm.of_grown g6 (fun k hk => (HT.out.e.lt k hk.symm).1)) ?_
          clear hK K
          obtain ⟨A6', c6', rfl⟩ := own_shape o6
          have HOE : Hid (v4_2.ownsRow w.heap.size 3 1 (.slice A6' (j + 1) c6') (j + 1) ((endsZ P ++ [(sn : Int)]).map i64)) := by (show World.ownsRow _ _ _ _ _ _ _); rw [List.map_append]; exact o6
          have HOA : Hid (v4_2.ownsRow w.heap.size 9 1 (.slice A7 j c7) j (P.map strV)) := (Two.grewE HT.out g6).1
          have HXX : Hid (Ext w v4_2) := (Two.grewE HT.out g6).2
          clear o6 g6
          try simp only [Act.put, List.setIfInBounds_toArray, List.set_cons_zero, List.set_cons_succ]
          refine rz_call (i := 11) rfl (by kernel_rfl) (by rfl) (fun K hK => ?_)
          go_simp
          refine hK _ _ (Frm.of_alloc _ _ _) ?_; clear hK K
          obtain ⟨v11_3, hv11_3⟩ : ∃ W, W = v4_2.alloc (.cells #[.string (str x)] 9) := ⟨_, rfl⟩
          obtain ⟨g11, hg11⟩ : ∃ g, g = v4_2.heap.size := ⟨_, rfl⟩
          have K11 : Hid (Blk v11_3 g11 9 #[.string (str x)]) := by (show Blk _ _ _ _); rw [hv11_3, hg11]; exact Blk.new _ _ _
          have Xv11_3 : Hid (Ext v4_2 v11_3) := by (show Ext _ _); rw [hv11_3]; exact Ext.alloc _ _
          have HOE := Lib.hid (own_ext HOE.out Xv11_3.out)
          have HOA := Lib.hid (own_ext HOA.out Xv11_3.out)
          have HXX : Hid (Ext w v11_3) := Ext.trans HXX.out Xv11_3.out
          rw [← hv11_3, ← hg11]
          clear hv11_3 hg11 Xv11_3
          try simp only [Act.put, List.setIfInBounds_toArray, List.set_cons_zero, List.set_cons_succ]
          refine rz_call (i := 12) rfl (by kernel_rfl) (by rfl) (fun K hK => ?_)
          refine wp_append_list (.tmp 62) (.tmp 68) 30 rfl w.heap.size 9 (.string ⟨#[]⟩) 16 Try.underlying30 info_str rfl (by decide) (.slice A7 j c7) j (P.map strV) rfl HOA.out strV (some ⟨g11, 0, none⟩) [x] 1 1 rfl rfl (Sl.of_blk K11.out (fun j v hj => by match j, hj with | 0, hj => (simp at hj; subst hj; rfl))) (fun _ => rfl) (by simp; omega) HXX.out.size ?_
          intro u7 v12_4 o7 g7 _
          refine hK _ _ (Frm.of_grown g7 (fun k hk => (HOA.out.lt k hk.symm).1)) ?_
          clear hK K
          obtain ⟨A7', c7', rfl⟩ := own_shape o7
          have HT2 : Hid (Two w v12_4 (j + 1) A6' c6' (endsZ (P ++ [x])) A7' c7' (P ++ [x])) := by
            refine ⟨?_, ?_, (Two.grewA HOE.out HOA.out HXX.out g7).2⟩
            · rw [endsZ_snoc, ← HSN.out]; exact (Two.grewA HOE.out HOA.out HXX.out g7).1
            · rw [List.map_append]; exact o7
          clear o7 g7
          try simp only [Act.put, List.setIfInBounds_toArray, List.set_cons_zero, List.set_cons_succ]
          refine rz_take [14] (i := 13) (v := ?_) rfl (by kernel_rfl) (by kernel_rfl) (by kernel_rfl) (by kernel_rfl) (by kernel_rfl) (by kernel_rfl) (fun _ _ _ h => h) (by rfl) ?_ ?_
          rotate_left
          · intro W hW; go_simp <;> with_reducible rfl
          try simp only [Act.put, List.setIfInBounds_toArray, List.set_cons_zero, List.set_cons_succ]
          refine rz_take [] (i := 14) (v := ?_) rfl (by kernel_rfl) (by kernel_rfl) (by kernel_rfl) (by kernel_rfl) (by kernel_rfl) (by kernel_rfl) (fun _ _ _ h => h) (by rfl) ?_ ?_
          rotate_left
          · intro W hW; go_simp <;> with_reducible rfl
          try simp only [Act.put, List.setIfInBounds_toArray, List.set_cons_zero, List.set_cons_succ]
          refine rz_done (by kernel_rfl) ?_ _
          go_wp2
          go_roundw
          case rel => exact ⟨j + 1, A6', c6', A7', c7', by omega, by rw [HDN.out], rfl, rfl, by go_num, HOK2.out, by have := HT2.out; rw [← HPN.out] at this; exact this⟩
          case measure => simp [intOf]; omega
        · go_simp
          refine hK _ _ (Frm.of_alloc _ _ _) ?_; clear hK K
          obtain ⟨v11_2, hv11_2⟩ : ∃ W, W = v3_1.alloc (.cells #[.string (str x)] 9) := ⟨_, rfl⟩
          obtain ⟨g11, hg11⟩ : ∃ g, g = v3_1.heap.size := ⟨_, rfl⟩
          have K11 : Hid (Blk v11_2 g11 9 #[.string (str x)]) := by (show Blk _ _ _ _); rw [hv11_2, hg11]; exact Blk.new _ _ _
          have Xv11_2 : Hid (Ext v3_1 v11_2) := by (show Ext _ _); rw [hv11_2]; exact Ext.alloc _ _
          have K3 : Hid (Blk v11_2 g3 3 #[.int .i64 (sn : Int)]) := K3.out.stay Xv11_2.out
          have HT := Lib.hid (HT.out.ext Xv11_2.out)
          rw [← hv11_2, ← hg11]
          clear hv11_2 hg11 Xv11_2
          try simp only [Act.put, List.setIfInBounds_toArray, List.set_cons_zero, List.set_cons_succ]
          refine rz_call (i := 4) rfl (by kernel_rfl) (by rfl) (fun K hK => ?_)
          refine wp_append_list (.tmp 57) (.tmp 60) 35 rfl w.heap.size 3 (.int .i64 0) 8 Try.underlying35 info_int rfl (by decide) (.slice A6 j c6) j ((endsZ P).map i64) rfl HT.out.e i64 (some ⟨g3, 0, none⟩) [(sn : Int)] 1 1 rfl rfl (Sl.of_blk K3.out (fun j v hj => by match j, hj with | 0, hj => (simp at hj; subst hj; rfl))) (fun _ => rfl) (by simp; omega) HT.out.x.size ?_
          intro u6 v4_3 o6 g6 _
          refine hK _ _ (Frm.of_grown g6 (fun k hk => (HT.out.e.lt k hk.symm).1)) ?_
          clear hK K
          obtain ⟨A6', c6', rfl⟩ := own_shape o6
          have HOE : Hid (v4_3.ownsRow w.heap.size 3 1 (.slice A6' (j + 1) c6') (j + 1) ((endsZ P ++ [(sn : Int)]).map i64)) := by (show World.ownsRow _ _ _ _ _ _ _); rw [List.map_append]; exact o6
          have HOA : Hid (v4_3.ownsRow w.heap.size 9 1 (.slice A7 j c7) j (P.map strV)) := (Two.grewE HT.out g6).1
          have HXX : Hid (Ext w v4_3) := (Two.grewE HT.out g6).2
          have K11 : Hid (Blk v4_3 g11 9 #[.string (str x)]) := K11.out.grown g6 (fun e => own_type HT.out.e K11.out (by decide) _ e.symm rfl)
          clear o6 g6
          try simp only [Act.put, List.setIfInBounds_toArray, List.set_cons_zero, List.set_cons_succ]
          refine rz_call (i := 12) rfl (by kernel_rfl) (by rfl) (fun K hK => ?_)
          refine wp_append_list (.tmp 62) (.tmp 68) 30 rfl w.heap.size 9 (.string ⟨#[]⟩) 16 Try.underlying30 info_str rfl (by decide) (.slice A7 j c7) j (P.map strV) rfl HOA.out strV (some ⟨g11, 0, none⟩) [x] 1 1 rfl rfl (Sl.of_blk K11.out (fun j v hj => by match j, hj with | 0, hj => (simp at hj; subst hj; rfl))) (fun _ => rfl) (by simp; omega) HXX.out.size ?_
          intro u7 v12_4 o7 g7 _
          refine hK _ _ (Frm.of_grown g7 (fun k hk => (HOA.out.lt k hk.symm).1)) ?_
          clear hK K
          obtain ⟨A7', c7', rfl⟩ := own_shape o7
          have HT2 : Hid (Two w v12_4 (j + 1) A6' c6' (endsZ (P ++ [x])) A7' c7' (P ++ [x])) := by
            refine ⟨?_, ?_, (Two.grewA HOE.out HOA.out HXX.out g7).2⟩
            · rw [endsZ_snoc, ← HSN.out]; exact (Two.grewA HOE.out HOA.out HXX.out g7).1
            · rw [List.map_append]; exact o7
          clear o7 g7
          try simp only [Act.put, List.setIfInBounds_toArray, List.set_cons_zero, List.set_cons_succ]
          refine rz_take [14] (i := 13) (v := ?_) rfl (by kernel_rfl) (by kernel_rfl) (by kernel_rfl) (by kernel_rfl) (by kernel_rfl) (by kernel_rfl) (fun _ _ _ h => h) (by rfl) ?_ ?_
          rotate_left
          · intro W hW; go_simp <;> with_reducible rfl
          try simp only [Act.put, List.setIfInBounds_toArray, List.set_cons_zero, List.set_cons_succ]
          refine rz_take [] (i := 14) (v := ?_) rfl (by kernel_rfl) (by kernel_rfl) (by kernel_rfl) (by kernel_rfl) (by kernel_rfl) (by kernel_rfl) (fun _ _ _ h => h) (by rfl) ?_ ?_
          rotate_left
          · intro W hW; go_simp <;> with_reducible rfl
          try simp only [Act.put, List.setIfInBounds_toArray, List.set_cons_zero, List.set_cons_succ]
          refine rz_done (by kernel_rfl) ?_ _
          go_wp2
          go_roundw
          case rel => exact ⟨j + 1, A6', c6', A7', c7', by omega, by rw [HDN.out], rfl, rfl, by go_num, HOK2.out, by have := HT2.out; rw [← HPN.out] at this; exact this⟩
          case measure => simp [intOf]; omega
      · go_simp
        refine hK _ _ (Frm.of_alloc _ _ _) ?_; clear hK K
        obtain ⟨v11_1, hv11_1⟩ : ∃ W, W = (w2.alloc (.cells #[.string (str x)] 9)).drew := ⟨_, rfl⟩
        obtain ⟨g11, hg11⟩ : ∃ g, g = w2.heap.size := ⟨_, rfl⟩
        have K11 : Hid (Blk v11_1 g11 9 #[.string (str x)]) := by (show Blk _ _ _ _); rw [hv11_1, hg11]; exact Blk.new _ _ _
        have Xv11_1 : Hid (Ext w2.drew v11_1) := by (show Ext _ _); rw [hv11_1]; exact Ext.drewR_of (Ext.alloc _ _)
        have HT := Lib.hid (HT.out.ext Xv11_1.out)
        rw [← hv11_1, ← hg11]
        clear hv11_1 hg11 Xv11_1
        try simp only [Act.put, List.setIfInBounds_toArray, List.set_cons_zero, List.set_cons_succ]
        refine rz_call (i := 3) rfl (by kernel_rfl) (by rfl) (fun K hK => ?_)
        go_simp
        refine hK _ _ (Frm.of_alloc _ _ _) ?_; clear hK K
        obtain ⟨v3_2, hv3_2⟩ : ∃ W, W = v11_1.alloc (.cells #[.int .i64 (sn : Int)] 3) := ⟨_, rfl⟩
        obtain ⟨g3, hg3⟩ : ∃ g, g = v11_1.heap.size := ⟨_, rfl⟩
        have K3 : Hid (Blk v3_2 g3 3 #[.int .i64 (sn : Int)]) := by (show Blk _ _ _ _); rw [hv3_2, hg3]; exact Blk.new _ _ _
        have Xv3_2 : Hid (Ext v11_1 v3_2) := by (show Ext _ _); rw [hv3_2]; exact Ext.alloc _ _
        have K11 : Hid (Blk v3_2 g11 9 #[.string (str x)]) := K11.out.stay Xv3_2.out
        have HT := Lib.hid (HT.out.ext Xv3_2.out)
        rw [← hv3_2, ← hg3]
        clear hv3_2 hg3 Xv3_2
        try simp only [Act.put, List.setIfInBounds_toArray, List.set_cons_zero, List.set_cons_succ]
        refine rz_call (i := 4) rfl (by kernel_rfl) (by rfl) (fun K hK => ?_)
        refine wp_append_list (.tmp 57) (.tmp 60) 35 rfl w.heap.size 3 (.int .i64 0) 8 Try.underlying35 info_int rfl (by decide) (.slice A6 j c6) j ((endsZ P).map i64) rfl HT.out.e i64 (some ⟨g3, 0, none⟩) [(sn : Int)] 1 1 rfl rfl (Sl.of_blk K3.out (fun j v hj => by match j, hj with | 0, hj => (simp at hj; subst hj; rfl))) (fun _ => rfl) (by simp; omega) HT.out.x.size ?_
        intro u6 v4_3 o6 g6 _
        refine hK _ _ (Frm.of_grown g6 (fun k hk => (HT.out.e.lt k hk.symm).1)) ?_
        clear hK K
        obtain ⟨A6', c6', rfl⟩ := own_shape o6
        have HOE : Hid (v4_3.ownsRow w.heap.size 3 1 (.slice A6' (j + 1) c6') (j + 1) ((endsZ P ++ [(sn : Int)]).map i64)) := by (show World.ownsRow _ _ _ _ _ _ _); rw [List.map_append]; exact o6
        have HOA : Hid (v4_3.ownsRow w.heap.size 9 1 (.slice A7 j c7) j (P.map strV)) := (Two.grewE HT.out g6).1
        have HXX : Hid (Ext w v4_3) := (Two.grewE HT.out g6).2
        have K11 : Hid (Blk v4_3 g11 9 #[.string (str x)]) := K11.out.grown g6 (fun e => own_type HT.out.e K11.out (by decide) _ e.symm rfl)
        clear o6 g6
        try simp only [Act.put, List.setIfInBounds_toArray, List.set_cons_zero, List.set_cons_succ]
        refine rz_call (i := 12) rfl (by kernel_rfl) (by rfl) (fun K hK => ?_)
        refine wp_append_list (.tmp 62) (.tmp 68) 30 rfl w.heap.size 9 (.string ⟨#[]⟩) 16 Try.underlying30 info_str rfl (by decide) (.slice A7 j c7) j (P.map strV) rfl HOA.out strV (some ⟨g11, 0, none⟩) [x] 1 1 rfl rfl (Sl.of_blk K11.out (fun j v hj => by match j, hj with | 0, hj => (simp at hj; subst hj; rfl))) (fun _ => rfl) (by simp; omega) HXX.out.size ?_
        intro u7 v12_4 o7 g7 _
        refine hK _ _ (Frm.of_grown g7 (fun k hk => (HOA.out.lt k hk.symm).1)) ?_
        clear hK K
        obtain ⟨A7', c7', rfl⟩ := own_shape o7
        have HT2 : Hid (Two w v12_4 (j + 1) A6' c6' (endsZ (P ++ [x])) A7' c7' (P ++ [x])) := by
          refine ⟨?_, ?_, (Two.grewA HOE.out HOA.out HXX.out g7).2⟩
          · rw [endsZ_snoc, ← HSN.out]; exact (Two.grewA HOE.out HOA.out HXX.out g7).1
          · rw [List.map_append]; exact o7
        clear o7 g7
        try simp only [Act.put, List.setIfInBounds_toArray, List.set_cons_zero, List.set_cons_succ]
        refine rz_take [14] (i := 13) (v := ?_) rfl (by kernel_rfl) (by kernel_rfl) (by kernel_rfl) (by kernel_rfl) (by kernel_rfl) (by kernel_rfl) (fun _ _ _ h => h) (by rfl) ?_ ?_
        rotate_left
        · intro W hW; go_simp <;> with_reducible rfl
        try simp only [Act.put, List.setIfInBounds_toArray, List.set_cons_zero, List.set_cons_succ]
        refine rz_take [] (i := 14) (v := ?_) rfl (by kernel_rfl) (by kernel_rfl) (by kernel_rfl) (by kernel_rfl) (by kernel_rfl) (by kernel_rfl) (fun _ _ _ h => h) (by rfl) ?_ ?_
        rotate_left
        · intro W hW; go_simp <;> with_reducible rfl
        try simp only [Act.put, List.setIfInBounds_toArray, List.set_cons_zero, List.set_cons_succ]
        refine rz_done (by kernel_rfl) ?_ _
        go_wp2
        go_roundw
        case rel => exact ⟨j + 1, A6', c6', A7', c7', by omega, by rw [HDN.out], rfl, rfl, by go_num, HOK2.out, by have := HT2.out; rw [← HPN.out] at this; exact this⟩
        case measure => simp [intOf]; omega
    · obtain rfl : n = j := by omega
      have htl : l.take n = l := List.take_of_length_le (by rw [← HLN.out]; exact Nat.le_refl _)
      rw [htl] at HT HOK ⊢
      have HOKR : Hid (okR l) := fun x hx => ⟨(HOK.out x hx).1, by have := (HOK.out x hx).2; omega⟩
      obtain ⟨D, hDD⟩ : ∃ D, D = catB l := ⟨_, rfl⟩
      have hDl : D.length ≤ 1300 := by
        have h1 := catB_le l 100 (fun y hy => (HOK.out y hy).2)
        have h2 := HLN.out
        rw [hDD]
        omega
      obtain ⟨d, hd⟩ : ∃ d, d = D.length := ⟨_, rfl⟩
      rw [← hd] at hDl
      obtain ⟨k, hk, hkm⟩ : ∃ k : Nat, k ≤ d ∧ (IntKind.u64.wrap at_).tmod ((d : Int) + 1) = (k : Int) := by
        have hw : 0 ≤ IntKind.u64.wrap at_ := by
          rw [show IntKind.u64.wrap at_ = at_ % 18446744073709551616 by simp [IntKind.wrap, IntKind.bits, IntKind.signed]]; omega
        have e := Int.tmod_eq_emod_of_nonneg (b := (d : Int) + 1) hw
        have e2 := Int.emod_nonneg (IntKind.u64.wrap at_) (show (d : Int) + 1 ≠ 0 by omega)
        have e3 := Int.emod_lt_of_pos (IntKind.u64.wrap at_) (show (0 : Int) < (d : Int) + 1 by omega)
        exact ⟨((IntKind.u64.wrap at_).tmod ((d : Int) + 1)).toNat, by omega, by omega⟩
      obtain ⟨q, r, hq, hcut, hsr, hql, hqr⟩ := cat_cut l k HOKR.out (by rw [← hDD, ← hd]; exact hk)
      have HQ9 : Hid ((catB l).take k = catB (l.take q) ++ r ∧ stepB r = none) := ⟨hcut, hsr⟩
      have HQL : Hid ((catB (l.take q)).length ≤ k) := hql
      have HQR : Hid (q < n → k < (catB (l.take (q + 1))).length) := fun h => hqr (by rw [← HLN.out]; exact h)
      have hqn : q ≤ n := by rw [HLN.out]; exact hq
      have hwd : IntKind.u64.wrap ((d : Int) + 1) = (d : Int) + 1 := by
        rw [show IntKind.u64.wrap ((d : Int) + 1) = ((d : Int) + 1) % 18446744073709551616 by simp [IntKind.wrap, IntKind.bits, IntKind.signed]]
        omega
      have hsz : (str D).size = d := by rw [hd, str_size]
      have HSE : Hid (∀ V, Ext wr V → Sl i64 V A6 (endsZ l)) := fun V h => by
        have ht := HT.out.ext h
        have he := ht.e
        rw [show n = (endsZ l).length by rw [endsZ_len, HLN.out]] at he
        obtain ⟨A9, c9, e, hs⟩ := own_view he
        injection e with e1 e2 e3
        subst e1
        exact hs
      have HSA : Hid (∀ V, Ext wr V → Sl strV V A7 l) := fun V h => by
        have ha := (HT.out.ext h).a
        rw [HLN.out] at ha
        obtain ⟨A9, c9, e, hs⟩ := own_view ha
        injection e with e1 e2 e3
        subst e1
        exact hs
      have HXR := Lib.hid HT.out.x
      have HC7 := Lib.hid (own_capV HT.out.a)
      have HDD := Lib.hid hDD
      have HDL := Lib.hid hd
      rw [← hDD]
      clear hDD hd hq hcut hsr hql hqr htl HT HOK hn12 h12
      generalize hsD : str D = sD at *
      have HSD := Lib.hid hsD
      clear hsD
      go_wp2
      go_loop [12, 13] (fun m e => ∃ (i : Nat), i ≤ q ∧ m = .int .i64 i ∧ e = .int .i64 ((catB (l.take i)).length : Nat)) (fun m _ => q - (intOf m).toNat)
      case atStart => exact ⟨0, by omega, rfl, rfl⟩
      case round =>
        obtain ⟨i, hi, rfl, rfl⟩ := hrel
        have hi0 : (0 : Int) ≤ (i : Int) := by omega
        by_cases hiq : i < q
        · have hin : (i : Int) < (n : Int) := by omega
          obtain ⟨b6, o6, rfl, ce⟩ := HSE.out wr (Ext.refl _) i _ (endsZ_get l i (by rw [← HLN.out]; omega))
          have hle : (((catB (l.take (i + 1))).length : Nat) : Int) ≤ (k : Int) := by
            have h1 := catB_mono l (i := i + 1) (j := q) (by omega)
            have h2 := HQL.out
            omega
          unfold i64 at ce
          generalize hE1 : (catB (l.take (i + 1))).length = e1 at *
          have HE1 := Lib.hid hE1
          clear hE1
          go_wp2
          go_round
          case rel => exact ⟨i + 1, by omega, by go_num, by rw [HE1.out]⟩
          case measure => simp [intOf]; omega
        · obtain rfl : q = i := by omega
          have HRD : Hid (∀ (V : World) Z c z (m : List UInt8) (xs : List (List UInt8)) (y : Nat), z = m.length → z ≤ 2000 → z ≤ c → c ≤ 9223372036854775807 → readB m = xs → endOf (framesB m) = y → Sl Go.Proofs.Ytgcclkdlomifcaa.u8 V Z m → Calls Try.prog 17 #[.slice Z z c] V fun e w' => ∃ A' c', e = .returned (.tuple #[.slice A' xs.length c', .int .i64 y]) ∧ Sls w' A' xs ∧ Ext V w') := fun V Z c z m xs y h1 h2 h3 h4 h5 h6 h7 => by
            subst h1 h5 h6
            exact (read_any Z c m V (by omega) h3 h4 h7).mono fun e w' ⟨A', c', e1, e2, _, e4⟩ => ⟨A', c', e1, e2, e4⟩
          have HTX : Hid (∀ (V : World) Z Y c d (xs : List (List UInt8)), xs.length ≤ 1000 → Sls V Z xs → Sl strV V Y xs → Calls Try.prog 19 #[.slice Z xs.length c, .slice Y xs.length d] V fun e w' => e = .returned (.bool true) ∧ Ext V w') := fun V Z Y c d xs h1 h2 h3 => texts_yes Z Y c d xs V (by omega) h2 h3
          have hqm : (l.take q).length = q := by rw [List.length_take]; have := HLN.out; omega
          obtain ⟨c1, W1, hr1, hX1, hS1, hc1, hc1m⟩ := run_bytes2 (D.take k) wr (by rw [List.length_take]; have := HDL.out; omega)
          have hkl : (D.take k).length = k := by rw [List.length_take]; have := HDL.out; omega
          have hex1 : sD.extract 0 k = str (D.take k) := by rw [← HSD.out, str_extract2]; simp
          have hap : sD ++ ⟨#[0, 0, 1, 2, 3, 4, 5]⟩ = str (D ++ [0, 0, 1, 2, 3, 4, 5]) := by rw [← HSD.out, str_app]; rfl
          have hcut2 := HQ9.out.1
          rw [← HDD.out] at hcut2
          have CR1 := HRD.out W1 _ c1 k (D.take k) (l.take q) (catB (l.take q)).length hkl.symm (by omega) (by omega) hc1m (by rw [hcut2]; exact read_cat _ _ (fun x hx => HOKR.out x (List.mem_of_mem_take hx)) HQ9.out.2) (by rw [hcut2]; exact end_cat _ _ (fun x hx => HOKR.out x (List.mem_of_mem_take hx)) HQ9.out.2) hS1
          rw [hqm] at CR1
          replace CR1 := Lib.hid CR1
          have XW1 : Hid (Ext wr W1) := hX1
          rw [hkl] at hr1
          have hqk : (q : Int) ≤ (c7 : Int) := by have := HC7.out; omega
          have hq0 : (0 : Int) ≤ (q : Int) := by omega
          have hk0 : (0 : Int) ≤ (k : Int) := by omega
          have hkd : (k : Int) ≤ (d : Int) := by omega
          have hsum : sD.size + (⟨#[0, 0, 1, 2, 3, 4, 5]⟩ : ByteArray).size ≤ 1000000000 := by rw [hsz]; (show d + 7 ≤ _); omega
          have HQN : Hid ((l.take q).length = q) := hqm
          have HK9 := Lib.hid (And.intro hk hDl)
          clear hX1 hS1 hc1 hc1m hkl hcut2 hqm hi
          generalize (catB (l.take q)).length = eq9 at *
          by_cases hqn' : q < n
          case' pos =>
            have hin : (q : Int) < (n : Int) := by omega
            obtain ⟨b6, o6, rfl, ce⟩ := HSE.out wr (Ext.refl _) q _ (endsZ_get l q (by rw [← HLN.out]; omega))
            have hle : ¬ (((catB (l.take (q + 1))).length : Nat) : Int) ≤ (k : Int) := by
              have h1 := HQR.out hqn'
              omega
            unfold i64 at ce
            generalize (catB (l.take (q + 1))).length = e1 at *
          case' neg => have hin : ¬ (q : Int) < (n : Int) := by omega
          all_goals
            go_wp2_with fail
            go_at_call 17
            with_reducible refine CR1.out.mono ?_
            rintro e w3 ⟨A3, c3, rfl, hs3, hx⟩
            have HS3 := Lib.hid hs3
            have X3 : Hid (Ext wr w3) := Ext.trans XW1.out hx
            obtain ⟨c2, W2, hr2, hX2, hS2, hc2, hc2m⟩ := run_bytes2 (D ++ [0, 0, 1, 2, 3, 4, 5]) w3 (by rw [List.length_append]; have := HDL.out; have := HK9.out; simp; omega)
            have hl7 : (D ++ [0, 0, 1, 2, 3, 4, 5]).length = d + 7 := by rw [List.length_append, ← HDL.out]; rfl
            have CR2 := HRD.out W2 _ c2 (d + 7) (D ++ [0, 0, 1, 2, 3, 4, 5]) l d hl7.symm (by have := HK9.out; omega) (by omega) hc2m (by rw [HDD.out]; exact read_cat _ _ HOKR.out (stepB_zero _)) (by rw [HDD.out, end_cat _ _ HOKR.out (stepB_zero _), ← HDD.out, HDL.out]) hS2
            rw [← HLN.out] at CR2
            replace CR2 := Lib.hid CR2
            rw [hl7] at hr2
            have HS32 : Hid (Sls W2 A3 (l.take q)) := hs3.stay hX2
            have XW2 : Hid (Ext wr W2) := Ext.trans X3.out hX2
            clear hx hs3 hX2 hS2 hc2 hc2m hl7 hr1
            go_wp2_with fail
            go_at_call 17
            with_reducible refine CR2.out.mono ?_
            rintro e w4 ⟨A4, c4, rfl, hs4, hx⟩
            have HS34 := Lib.hid (HS32.out.stay hx)
            have HS4 := Lib.hid hs4
            have X4 : Hid (Ext wr w4) := Ext.trans XW2.out hx
            clear hx hs4 hr2
            go_wp2_with fail
            go_at_call 14
            with_reducible refine (HTO.out _).mono ?_
            rintro e w5 ⟨rfl, hx⟩
            have X5 : Hid (Ext wr w5) := Ext.trans X4.out hx
            have CT1 := HTX.out w5 A3 A7 c3 c7 (l.take q) (by rw [HQN.out]; have := HN12.out; omega) (HS34.out.stay hx) (Sl.take' (HSA.out w5 X5.out) q)
            rw [HQN.out] at CT1
            replace CT1 := Lib.hid CT1
            have HS45 := Lib.hid (HS4.out.stay hx)
            clear hx
            go_wp2_with fail
            go_at_call 19
            with_reducible refine CT1.out.mono ?_
            rintro e w6 ⟨rfl, hx⟩
            have X6 : Hid (Ext wr w6) := Ext.trans X5.out hx
            have CT2 := HTX.out w6 A4 A7 c4 c7 l (by have := HLN.out; have := HN12.out; omega) (HS45.out.stay hx) (HSA.out w6 X6.out)
            rw [← HLN.out] at CT2
            replace CT2 := Lib.hid CT2
            clear hx
            go_wp2_with fail
            go_at_call 19
            with_reducible refine CT2.out.mono ?_
            rintro e w7 ⟨rfl, hx⟩
            have X7 : Hid (Ext wr w7) := Ext.trans X6.out hx
            clear hx
            go_wp2
            try go_ret
            exact hD.out _ _ ⟨rfl, Ext.trans HXR.out X7.out⟩

set_option maxRecDepth 100000 in
theorem law_walBack {H : Type} {enc : TypeId × Value → H} (W : World) (base : Nat) (args : Array Value) (ds : List (DataW H)) (p : List MemPlace)
    (hval : ∀ (j : Nat) t v, Try.f4.params[j]? = some t → args[j]? = some v → Value.okWide Try.prog W .any base t v)
    (hA : DataW.TrodAll enc Try.prog W 0 (fun _ => true) true Try.f4.params.toList args.toList ds p) :
    Calls Try.prog 4 args W fun e W' => e = .returned (.bool true) ∧ Below W.heap.size W W' := by
  rw [Try.params4] at hA hval
  obtain ⟨v0, vs0, d0, ds0, p0, q0, hargs, rfl, rfl, h0, r0⟩ := trodAll_cons hA
  obtain ⟨v1, vs1, d1, ds1, p1, q1, rfl, rfl, rfl, h1, r1⟩ := trodAll_cons r0
  obtain ⟨rfl, rfl, rfl⟩ := trodAll_nil r1
  obtain rfl : args = #[v0, v1] := by cases args; simp_all
  obtain ⟨A0, n0, c0, rfl⟩ := okWide_slice Try.underlying27 (hval 0 27 v0 rfl rfl)
  obtain ⟨fuel0, hf0⟩ := h0
  obtain ⟨B0, l0, e0, hcs0, x0, y0, z0⟩ := open_recs hf0
  simp only [Value.cells, List.cons.injEq, Value.slice.injEq, and_true] at hcs0
  obtain ⟨rfl, rfl, rfl⟩ := hcs0
  obtain ⟨a1, rfl, rfl, rfl, w1⟩ := open_int Try.underlying3 (hval 1 3 v1 rfl rfl) h1
  exact walk_walBack A0 l0 c0 a1 W x0 y0 z0

end Go.Proofs.Ytgcclkdlomifcaa
