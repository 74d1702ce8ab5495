/-
  The walk of the law WalTurned.
-/
import Derived.Test.YtgcclkdlomifcaaWalTurnLaw
import Derived.Laws.Concat
namespace Go.Proofs.Ytgcclkdlomifcaa
set_option linter.unusedVariables false
set_option linter.unusedSimpArgs false
open Go.RowKit Go.ChangeShapes Go.WideShapes

theorem Sls.take' {w : World} {A : Option Addr} {xs : List (List UInt8)} (h : Sls w A xs) (k : Nat) : Sls w A (xs.take k) := fun j x hj => by
  rw [List.getElem?_take] at hj
  split at hj
  · exact h j x hj
  · cases hj
theorem str_app (a b : List UInt8) : str (a ++ b) = str a ++ str b := by
  apply ByteArray.ext
  rw [ByteArray.data_append]
  simp [str]

set_option maxRecDepth 100000 in
set_option maxHeartbeats 32000000 in
theorem walk_walTurned (A : Option Addr) (l : List (List UInt8)) (cap : Nat) (at_ xi : Int) (w : World) (hn : l.length ≤ 9223372036854775807) (hs : Sls w A l) (hlx : ∀ x ∈ l, x.length ≤ 9223372036854775807) (hxi : 0 ≤ xi ∧ xi ≤ 255) :
    Calls Try.prog 5 #[.slice A l.length cap, .int .i64 at_, .int .u8 xi] w fun e w' => e = .returned (.bool true) ∧ Below w.heap.size w w' := by
  refine hide_post fun DP hD => ?_
  have HTO : Hid (∀ V, Calls Try.prog 14 #[] V fun e w' => e = .returned (.bool true) ∧ Ext V w') := told8
  have HS := Lib.hid hs
  have HLX := Lib.hid hlx
  obtain ⟨n, hln⟩ : ∃ n, n = l.length := ⟨_, rfl⟩
  rw [← hln] at hn ⊢
  have HLN := Lib.hid hln
  clear hs hln hlx
  obtain ⟨X, rfl⟩ : ∃ X : UInt8, xi = (X.toNat : Int) := ⟨UInt8.ofNat xi.toNat, by rw [UInt8.toNat_ofNat']; omega⟩
  clear hxi
  by_cases h1 : (n : Int) < 1
  · go_enter Try.func5, Try.ntmps5
    go_wp2_with (go_at_call 14; (with_reducible refine (HTO.out _).mono ?_); rintro e w1 ⟨rfl, hx⟩; have HX := Lib.hid hx; clear hx)
    try go_ret
    exact hD.out _ _ ⟨rfl, HX.out⟩
  by_cases h12 : (6 : Int) < (n : Int)
  · go_enter Try.func5, Try.ntmps5
    go_wp2_with (go_at_call 14; (with_reducible refine (HTO.out _).mono ?_); rintro e w1 ⟨rfl, hx⟩; have HX := Lib.hid hx; clear hx)
    try go_ret
    exact hD.out _ _ ⟨rfl, HX.out⟩
  by_cases hX0 : X = 0
  · have hX : ((X.toNat : Int) == 0) = true := by rw [hX0]; rfl
    clear hX0
    go_enter Try.func5, Try.ntmps5
    go_wp2_with (go_at_call 14; (with_reducible refine (HTO.out _).mono ?_); rintro e w1 ⟨rfl, hx⟩; have HX := Lib.hid hx; clear hx)
    try go_ret
    exact hD.out _ _ ⟨rfl, HX.out⟩
  have hX : ((X.toNat : Int) == 0) = false := by
    rw [beq_eq_false_iff_ne]
    intro e
    exact hX0 (UInt8.toNat_inj.1 (by show X.toNat = 0; omega))
  have HX0 := Lib.hid hX0
  have hn12 : n ≤ 6 := by omega
  have hn1 : 1 ≤ n := by omega
  have HN12 := Lib.hid (And.intro hn1 hn12)
  clear hX0
  go_enter Try.func5, Try.ntmps5
  go_wp2
  go_loopw [7, 8, 9, 10] (fun t a e i wr => ∃ (j : Nat) (A6 : Option Addr) (c6 : Nat) (A7 : Option Addr) (c7 : Nat), j ≤ n ∧ t = .string (str (catB (l.take j))) ∧ a = .slice A7 j c7 ∧ e = .slice A6 j c6 ∧ i = .int .i64 j ∧ Hid (∀ x ∈ l.take j, 1 ≤ x.length ∧ x.length ≤ 60) ∧ Hid (Two w wr j A6 c6 (endsZ (l.take j)) A7 c7 (l.take j))) (fun _ _ _ i _ => n - (intOf i).toNat)
  case atStart => exact ⟨0, none, 0, none, 0, by omega, rfl, rfl, rfl, rfl, (fun x hx => by simp at hx), Two.nil w⟩
  case round =>
    obtain ⟨j, A6, c6, A7, c7, hj, rfl, rfl, rfl, rfl, HOK, HT⟩ := hrel
    by_cases hlt : j < n
    · obtain ⟨x, hx⟩ : ∃ x, l[j]? = some x := ⟨_, List.getElem?_eq_getElem (by rw [← HLN.out]; exact hlt)⟩
      obtain ⟨b, o, A', c', rfl, q0, qs⟩ := HS.out j x hx
      have htk : l.take (j + 1) = l.take j ++ [x] := by rw [List.take_add_one, hx]; rfl
      obtain ⟨P, hP⟩ : ∃ P, P = l.take j := ⟨_, rfl⟩
      rw [← hP] at HT HOK htk ⊢
      have HPN : Hid (l.take (j + 1) = P ++ [x]) := htk
      have hPl : P.length = j := by rw [hP, List.length_take]; have := HLN.out; omega
      have HPL := Lib.hid hPl
      have HC0 : Hid (∀ V, Ext w V → V.cell? ⟨b, o + j, none⟩ = some (.slice A' x.length c')) := fun V h => cell_stay h q0
      have HSX : Hid (∀ V, Ext w V → Sl Go.Proofs.Ytgcclkdlomifcaa.u8 V A' x) := fun V h => qs.stay h
      have c0 := HC0.out wr HT.out.x
      have hj0 : (0 : Int) ≤ (j : Int) := by omega
      have hjn : (j : Int) < (n : Int) := by omega
      have HXJ := Lib.hid hx
      clear q0 qs hx htk hP hPl
      obtain ⟨xn, hxn⟩ : ∃ xn, xn = x.length := ⟨_, rfl⟩
      rw [← hxn] at c0 HC0
      have g3 : xn ≤ 9223372036854775807 := by rw [hxn]; exact HLX.out x (List.mem_of_getElem? HXJ.out)
      have HXN := Lib.hid hxn
      have CN : Hid (xn < 1 ∨ 4096 < xn → xn ≤ 9223372036854775807 → Calls Try.prog 15 #[.slice A' xn c'] wr fun e w' => e = .returned (.tuple #[.slice none 0 0, .int .i64 1]) ∧ wr = w') := fun h h2 => frame_no A' c' xn wr h2 h
      have CY : Hid (1 ≤ xn → xn ≤ 4096 → Calls Try.prog 15 #[.slice A' xn c'] wr fun e w' => ∃ A9 c9, e = .returned (.tuple #[.slice A9 (xn + 6) c9, .int .i64 0]) ∧ Sl Go.Proofs.Ytgcclkdlomifcaa.u8 w' A9 (frameB x) ∧ Ext wr w') := fun h1 h2 => by
        have := frame_yes A' c' x wr (HSX.out wr HT.out.x) (by have := HXN.out; omega) (by have := HXN.out; omega)
        rw [← HXN.out] at this
        exact this.mono fun e w' ⟨A9, c9, h3, h4, h5⟩ => ⟨A9, c9, h3, by
          obtain ⟨A8, c8, e, hs⟩ := own_view (l := frameB x) (by rw [frameB_len, ← HXN.out]; exact h4)
          injection e with e1 e2 e3
          subst e1
          exact hs, h5⟩
      clear hxn
      by_cases g1 : (xn : Int) < 1
      · replace CN := Lib.hid (CN.out (.inl (by omega)) (by omega))
        clear CY
        go_wp2_with (first | (go_at_call 15; (with_reducible refine CN.out.mono ?_); rintro e w2 ⟨rfl, rfl⟩) | (go_at_call 14; (with_reducible refine (HTO.out _).mono ?_); rintro e w3 ⟨rfl, hx⟩; have HX := Lib.hid hx; clear hx))
        try go_ret
        exact hD.out _ _ ⟨rfl, Ext.trans HT.out.x HX.out⟩
      by_cases g2 : (4096 : Int) < (xn : Int)
      · replace CN := Lib.hid (CN.out (.inr (by omega)) (by omega))
        have g2' : (60 : Int) < (xn : Int) := by omega
        clear CY
        go_wp2_with (first | (go_at_call 15; (with_reducible refine CN.out.mono ?_); rintro e w2 ⟨rfl, rfl⟩) | (go_at_call 14; (with_reducible refine (HTO.out _).mono ?_); rintro e w3 ⟨rfl, hx⟩; have HX := Lib.hid hx; clear hx))
        try go_ret
        exact hD.out _ _ ⟨rfl, Ext.trans HT.out.x HX.out⟩
      replace CY := Lib.hid (CY.out (by omega) (by omega))
      clear CN
      by_cases g4 : (60 : Int) < (xn : Int)
      · go_wp2_with (first | (go_at_call 15; (with_reducible refine CY.out.mono ?_); rintro e w2 ⟨A9, c9, rfl, hs9, hx⟩; have c0 := HC0.out w2 (Ext.trans HT.out.x hx); have HX2 := Lib.hid hx; clear hx hs9) | (go_at_call 14; (with_reducible refine (HTO.out _).mono ?_); rintro e w3 ⟨rfl, hx⟩; have HX := Lib.hid hx; clear hx))
        try go_ret
        exact hD.out _ _ ⟨rfl, Ext.trans HT.out.x (Ext.trans HX2.out HX.out)⟩
      have HDL : Hid ((catB P).length ≤ 396) := by
        have h1 := catB_le P 60 (fun y hy => (HOK.out y hy).2)
        have h2 := HPL.out
        show _ ≤ _
        omega
      have HOK2 : Hid (∀ y ∈ l.take (j + 1), 1 ≤ y.length ∧ y.length ≤ 60) := fun y hy => by
        rw [HPN.out] at hy
        rcases List.mem_append.1 hy with h1 | h1
        · exact HOK.out y h1
        · rw [List.mem_singleton.1 h1, ← HXN.out]; omega
      have HDN : Hid (str (catB (l.take (j + 1))) = str (catB P) ++ str (frameB x)) := by (show _ = _); rw [HPN.out, catB_append, str_app]; simp [catB]
      have hsum : (str (catB P)).size + (str (frameB x)).size ≤ 1000000000 := by (rw [str_size, str_size, frameB_len]); have := HDL.out; have := HXN.out; omega
      have hsz : (str (catB P) ++ str (frameB x)).size = (catB (P ++ [x])).length := by rw [← str_app, str_size, catB_append]; simp [catB]
      obtain ⟨sn, hsn⟩ : ∃ sn, sn = (catB (P ++ [x])).length := ⟨_, rfl⟩
      rw [← hsn] at hsz
      have HSN := Lib.hid hsn
      have hsnb : sn ≤ 500 := by rw [hsn, catB_append]; simp [catB, frameB_len]; have := HDL.out; have := HXN.out; omega
      clear hsn
      go_wp2_with fail
      go_at_call 15
      with_reducible refine CY.out.mono ?_
      rintro e w2 ⟨A9, c9, rfl, hs9, hx⟩
      have HX2 := Lib.hid hx
      replace HT := Lib.hid (HT.out.ext hx)
      have c0 := HC0.out w2 HT.out.x
      have hcf : (convert 22 9 (.slice A9 (xn + 6) c9)).run Try.prog w2 = .ok (.string (str (frameB x))) w2 := by
        have := run_strB A9 (frameB x) c9 w2 hs9
        rw [frameB_len, ← HXN.out] at this
        exact this
      have hcx : ∀ V, Frm (fun k => w.heap.size ≤ k) w2 V → (convert 22 9 (.slice A' xn c')).run Try.prog V = .ok (.string (str x)) V := fun V h => by
        have := run_strB A' x c' V (HSX.out V (Below.trans HT.out.x (h.below HT.out.x.size (fun k hk => hk))))
        rw [← HXN.out] at this
        exact this
      clear hx hs9 HX2
      have hcx2 := hcx
      clear hcx
      have hcw : (convert 22 9 (.slice A' xn c')).run Try.prog w2 = .ok (.string (str x)) w2 := hcx2 w2 (Frm.refl _ _)
      have K1 : Hid (Blk (w2.alloc (.cells #[.string (str x)] 9)) w2.heap.size 9 #[.string (str x)]) := Blk.new _ _ _
      clear hcx2
      go_wp2_with (first
        | (at_builtin; refine wpList_append_list rfl (.tmp 69) (.tmp 75) 30 rfl w.heap.size 9 (.string ⟨#[]⟩) 16 Try.underlying30 info_str rfl (by omega) (.slice A7 j c7) j (P.map strV) rfl ((HT.out.ext (Ext.alloc _ _)).a) strV (some ⟨w2.heap.size, 0, none⟩) [x] 1 1 rfl rfl (Sl.of_blk K1.out (fun j v hj => by match j, hj with | 0, hj => (simp at hj; subst hj; rfl))) (fun _ => rfl) (by simp; omega) (HT.out.ext (Ext.alloc _ _)).x.size ?_; intro u7 v1 o7 g7 _; obtain ⟨A7', c7', rfl⟩ := own_shape o7; have HA7 := Lib.hid o7; have HE7 := Lib.hid (Two.grewA (HT.out.ext (Ext.alloc _ _)).e (HT.out.ext (Ext.alloc _ _)).a (HT.out.ext (Ext.alloc _ _)).x g7); clear o7 g7)
        | (at_builtin; refine wpList_append_list rfl (.tmp 77) (.tmp 80) 35 rfl w.heap.size 3 (.int .i64 0) 8 Try.underlying35 info_int rfl (by omega) (.slice A6 j c6) j ((endsZ P).map i64) rfl (HE7.out.1.alloc _) i64 (some ⟨v1.heap.size, 0, none⟩) [(sn : Int)] 1 1 rfl rfl (Sl.of_blk (Blk.new v1 3 #[.int .i64 (sn : Int)]) (fun j v hj => by match j, hj with | 0, hj => (simp at hj; subst hj; rfl))) (fun _ => rfl) (by simp; omega) (Ext.trans HE7.out.2 (Ext.alloc _ _)).size ?_; intro u6 v2 o6 g6 _; obtain ⟨A6', c6', rfl⟩ := own_shape o6; have HE6 := Lib.hid o6; have HA6 := Lib.hid (Two.grewE2 (HE7.out.1.alloc _) (HA7.out.alloc _) (Ext.trans HE7.out.2 (Ext.alloc _ _)) g6); clear o6 g6))
      have HT2 : Hid (Two w v2 (j + 1) A6' c6' (endsZ (P ++ [x])) A7' c7' (P ++ [x])) := by
        refine ⟨?_, ?_, HA6.out.2⟩
        · rw [endsZ_snoc, ← HSN.out, List.map_append]; exact HE6.out
        · rw [List.map_append]; exact HA6.out.1
      go_roundw
      case rel => exact ⟨j + 1, A6', c6', A7', c7', by omega, by rw [HDN.out], rfl, rfl, by go_num, HOK2.out, by have := HT2.out; rw [← HPN.out] at this; exact this⟩
      case measure => simp [intOf]; omega
    · obtain rfl : n = j := by omega
      have htl : l.take n = l := List.take_of_length_le (by rw [← HLN.out]; exact Nat.le_refl _)
      rw [htl] at HT HOK ⊢
      have HOKR : Hid (okR l) := fun x hx => ⟨(HOK.out x hx).1, by have := (HOK.out x hx).2; omega⟩
      obtain ⟨D, hDD⟩ : ∃ D, D = catB l := ⟨_, rfl⟩
      have hDl : D.length ≤ 396 := by
        have h1 := catB_le l 60 (fun y hy => (HOK.out y hy).2)
        have h2 := HLN.out
        rw [hDD]
        omega
      have hD0 : 0 < D.length := by
        have h1 := catB_len_le l HOKR.out
        have h2 := HLN.out
        rw [hDD]
        omega
      obtain ⟨d, hd⟩ : ∃ d, d = D.length := ⟨_, rfl⟩
      obtain ⟨k, hk, hkm⟩ : ∃ k : Nat, k < D.length ∧ (IntKind.u64.wrap at_).tmod (d : Int) = (k : Int) := by
        have hw : 0 ≤ IntKind.u64.wrap at_ := by
          rw [show IntKind.u64.wrap at_ = at_ % 18446744073709551616 by simp [IntKind.wrap, IntKind.bits, IntKind.signed]]; omega
        have e := Int.tmod_eq_emod_of_nonneg (b := (d : Int)) hw
        have e2 := Int.emod_nonneg (IntKind.u64.wrap at_) (show (d : Int) ≠ 0 by omega)
        have e3 := Int.emod_lt_of_pos (IntKind.u64.wrap at_) (show (0 : Int) < (d : Int) by omega)
        exact ⟨((IntKind.u64.wrap at_).tmod (d : Int)).toNat, by omega, by omega⟩
      obtain ⟨q, hq, hql, hqr, hqR, hqt, hq2⟩ := turned_read l k X HX0.out HOKR.out (by rw [← hDD]; exact hk)
      obtain ⟨D', hD'⟩ : ∃ D', D' = D.set k (D[k] ^^^ X) := ⟨_, rfl⟩
      have hDe : (catB l).set k ((catB l)[k]'(by rw [← hDD]; exact hk) ^^^ X) = D' := by subst hDD; exact hD'.symm
      rw [hDe] at hqR hqt hq2
      have hDl' : D'.length = D.length := by rw [hD', List.length_set]
      obtain ⟨L, hL⟩ : ∃ L, L = (catB (l.take q)).length := ⟨_, rfl⟩
      rw [← hL] at hql hq2
      rw [← HLN.out] at hq
      have hsz : (str D).size = d := by rw [hd, str_size]
      have HSE : Hid (∀ V, Ext wr V → Sl i64 V A6 (endsZ l)) := fun V h => by
        have ht := HT.out.ext h
        have he := ht.e
        rw [show n = (endsZ l).length by rw [endsZ_len, HLN.out]] at he
        obtain ⟨A9, c9, e, hs⟩ := own_view he
        injection e with e1 e2 e3
        subst e1
        exact hs
      have HSA : Hid (∀ V, Ext wr V → Sl strV V A7 l) := fun V h => by
        have ha := (HT.out.ext h).a
        rw [HLN.out] at ha
        obtain ⟨A9, c9, e, hs⟩ := own_view ha
        injection e with e1 e2 e3
        subst e1
        exact hs
      have HXR := Lib.hid HT.out.x
      have HC7 := Lib.hid (own_capV HT.out.a)
      have hn0 : 0 < n := by omega
      obtain ⟨c1, W1, hr1, hX1, hS1, hc1, hc1m, hfz⟩ := run_bytes2 D wr (by omega)
      obtain ⟨b1, o1, eb, cb⟩ := hS1.at_ (k := k) hk
      injection eb with eb
      injection eb with eb1 eb2
      subst eb1 eb2
      have hfk := hfz k hk
      rw [Nat.zero_add] at cb
      unfold Go.Proofs.Ytgcclkdlomifcaa.u8 at cb
      obtain ⟨c, hc⟩ : ∃ c, c = D[k] := ⟨_, rfl⟩
      obtain ⟨y, hy⟩ : ∃ y, y = c ^^^ X := ⟨_, rfl⟩
      rw [← hc] at cb hD'
      rw [← hy] at hD'
      have hxo : bits BinOp.xor IntKind.u8 (c.toNat : Int) (X.toNat : Int) = (y.toNat : Int) := by rw [u8_xor_nat _ _ c.toNat_lt X.toNat_lt, hy, UInt8.toNat_xor]
      obtain ⟨W9, hW9⟩ : ∃ W9, W9 = W1.setCell ⟨wr.heap.size, k, none⟩ (.int .u8 (y.toNat : Int)) := ⟨_, rfl⟩
      have hX9 : Ext wr W9 := by rw [hW9]; exact hX1.setCell (p := ⟨wr.heap.size, k, none⟩) (Nat.le_refl _) _
      have hS9 : Sl Go.Proofs.Ytgcclkdlomifcaa.u8 W9 (some ⟨wr.heap.size, 0, none⟩) D' := by
        rw [hW9, hD']
        intro j v hj
        refine ⟨wr.heap.size, 0, rfl, ?_⟩
        rw [Nat.zero_add]
        by_cases hjk : k = j
        · subst hjk
          rw [List.getElem?_set_self hk] at hj
          injection hj with hj
          subst hj
          exact World.cell?_setCell_same' _ _ _ (by rw [cb]; rfl)
        · rw [List.getElem?_set_ne hjk] at hj
          obtain ⟨b2, o2, e2, h2⟩ := hS1 j v hj
          injection e2 with e2
          injection e2 with e3 e4
          subst e3 e4
          rw [Nat.zero_add] at h2
          exact (World.cell?_setCell_other W1 ⟨wr.heap.size, k, none⟩ _ _ (fun e => hjk (by injection e))).trans h2
      have CR : Hid (Calls Try.prog 17 #[.slice (some ⟨wr.heap.size, 0, none⟩) d c1] W9 fun e w' => ∃ A' c', e = .returned (.tuple #[.slice A' (readB D').length c', .int .i64 (endOf (framesB D'))]) ∧ Sls w' A' (readB D') ∧ (readB D').length ≤ c' ∧ Ext W9 w') := by
        have := read_any (some ⟨wr.heap.size, 0, none⟩) c1 D' W9 (by omega) (by omega) hc1m hS9
        rw [hDl', ← hd] at this
        exact this
      have CRR : Hid (∀ V, Calls Try.prog 18 #[.string (str D')] V fun e w' => ∃ A' c', e = .returned (.tuple #[.slice A' (readB D').length c', .int .i64 (endOf (framesB D'))]) ∧ Sl strV w' A' (readB D') ∧ Ext V w') := fun V => refRead_any D' V (by omega)
      have HCV : Hid (∀ V, Ext W9 V → (convert 22 9 (.slice (some ⟨wr.heap.size, 0, none⟩) d c1)).run Try.prog V = .ok (.string (str D')) V) := fun V h => by
        have := run_strB (some ⟨wr.heap.size, 0, none⟩) D' c1 V (hS9.stay h)
        rw [hDl', ← hd] at this
        exact this
      have HRL : Hid ((readB D').length ≤ 1000) := by
        have := framesB_len D'
        show _ ≤ _
        unfold readB
        rw [List.length_map]
        omega
      have HTX : Hid (∀ (V : World) Z Y c d (xs : List (List UInt8)), xs.length ≤ 1000 → Sls V Z xs → Sl strV V Y xs → Calls Try.prog 19 #[.slice Z xs.length c, .slice Y xs.length d] V fun e w' => e = .returned (.bool true) ∧ Ext V w') := fun V Z Y c d xs h1 h2 h3 => texts_yes Z Y c d xs V (by omega) h2 h3
      have HX9 := Lib.hid hX9
      have HW9 := Lib.hid hW9
      have HDD := Lib.hid hDD
      have HDL := Lib.hid hd
      have HL := Lib.hid hL
      have HQT := Lib.hid hqt
      have HQ2 := Lib.hid hq2
      have HQE : Hid (∀ i, i < n → ∀ V, Ext wr V → ∃ b6 o6, A6 = some ⟨b6, o6, none⟩ ∧ V.cell? ⟨b6, o6 + i, none⟩ = some (.int .i64 ((catB (l.take (i + 1))).length : Nat))) := fun i hi V hV => by
        obtain ⟨b6, o6, e, h⟩ := HSE.out V hV i _ (endsZ_get l i (by rw [← HLN.out]; omega))
        exact ⟨b6, o6, e, h⟩
      have HQL : Hid (∀ i, i < q → (catB (l.take (i + 1))).length ≤ k) := fun i hi => by
        have h1 := catB_mono l (i := i + 1) (j := q) (by omega)
        omega
      have HQR : Hid (k < (catB (l.take (q + 1))).length) := hqr
      have hk0 : (0 : Int) ≤ (k : Int) := by omega
      have hkd : (k : Int) < (d : Int) := by omega
      have hdp : ¬ (d : Int) = 0 := by omega
      have hdn : ¬ d = 0 := by omega
      have hwd : IntKind.u64.wrap (d : Int) = (d : Int) := by
        rw [show IntKind.u64.wrap (d : Int) = (d : Int) % 18446744073709551616 by simp [IntKind.wrap, IntKind.bits, IntKind.signed]]
        omega
      rw [← hd] at hr1
      rw [← hDD]
      clear hDD hd hqr htl HT HOK hn12 h12 hD' hDe hqt hq2 hL hX1 hS1 hc1 hc1m hfz hc hy hX9 hS9 hW9 hDl' h1
      generalize hsD : str D = sD at *
      have HSD := Lib.hid hsD
      clear hsD
      generalize hR9 : (readB D').length = r9 at *
      have HR9 := Lib.hid hR9
      clear hR9
      generalize hE9 : endOf (framesB D') = e9 at *
      have HE9 := Lib.hid hE9
      clear hE9
      go_wp2
      rw [← HW9.out]
      clear hr1 cb hfk hxo
      have hq9 : q ≤ n := by omega
      go_loop [15] (fun m => ∃ (i : Nat), i ≤ q ∧ m = .int .i64 i) (fun m => q - (intOf m).toNat)
      case atStart => exact ⟨0, by omega, rfl⟩
      case round =>
        obtain ⟨i, hi, rfl⟩ := hrel
        have hi0 : (0 : Int) ≤ (i : Int) := by omega
        have hin : (i : Int) < (n : Int) := by omega
        obtain ⟨b6, o6, rfl, ce⟩ := HQE.out i (by omega) W9 HX9.out
        by_cases hiq : i < q
        · have hle : (((catB (l.take (i + 1))).length : Nat) : Int) ≤ (k : Int) := by
            have h1 := HQL.out i hiq
            omega
          generalize (catB (l.take (i + 1))).length = e1 at *
          go_wp2
          go_round
          case rel => exact ⟨i + 1, by omega, by go_num⟩
          case measure => simp [intOf]; omega
        · obtain rfl : q = i := by omega
          have hle : ¬ (((catB (l.take (q + 1))).length : Nat) : Int) ≤ (k : Int) := by
            have h1 := HQR.out
            omega
          generalize (catB (l.take (q + 1))).length = e1 at *
          have hqm : (l.take q).length = q := by rw [List.length_take]; have := HLN.out; omega
          have HQN := Lib.hid hqm
          have hq7 : (q : Int) ≤ (c7 : Int) := by have := HC7.out; omega
          have hqr9 : ¬ (r9 : Int) < (q : Int) := by omega
          have hq1 : IntKind.i64.wrap ((q : Int) - 1) = (q : Int) - 1 := IntWalk.i64_in _ (by omega)
          have HQ0 : Hid (0 < q → ∀ V, Ext wr V → V.cell? ⟨b6, o6 + (q - 1), none⟩ = some (.int .i64 (L : Nat))) := fun h V hV => by
            obtain ⟨b7, o7, e, hh⟩ := HQE.out (q - 1) (by omega) V hV
            injection e with e
            injection e with e1 e2
            subst e1 e2
            rw [show q - 1 + 1 = q by omega, ← HL.out] at hh
            exact hh
          have HLz : Hid (q = 0 → L = 0) := fun h => by rw [HL.out, h]; rfl
          clear hqm hi
          have HQR9 := Lib.hid hqR
          clear hqR
          by_cases hqz : q = 0
          · have hL0 : L = 0 := HLz.out hqz
            have hqi : ¬ (0 : Int) < (q : Int) := by omega
            have hqe : ((q : Int) == 0) = true := by rw [beq_iff_eq]; omega
            have HEZ : Hid (e9 = L → ((e9 : Int) == 0) = true) := fun h => by rw [beq_iff_eq]; omega
            have HIN : Hid (L = 0) := hL0
            clear hL0 hqz
            go_wp2_with fail
            go_at_call 17
            with_reducible refine CR.out.mono ?_
            rintro e w3 ⟨A3, c3, rfl, hs3, hc3, hx⟩
            have HX3 : Hid (Ext wr w3) := Ext.trans HX9.out hx
            have HS3 := Lib.hid hs3
            have hq33 : (q : Int) ≤ (c3 : Int) := by have := HR9.out; have := HQR9.out; omega
            have hqi0 : (0 : Int) ≤ (q : Int) := by omega
            have hr9q : ¬ (r9 : Int) < (q : Int) := by have := HQR9.out; have := HR9.out; omega
            have CT : Hid (∀ V, Ext w3 V → Calls Try.prog 19 #[.slice A3 q c3, .slice A7 q c7] V fun e w' => e = .returned (.bool true) ∧ Ext V w') := fun V hV => by
              have h1 := (HS3.out.stay hV).take' q
              rw [HQT.out] at h1
              have := HTX.out V A3 A7 c3 c7 (l.take q) (by rw [HQN.out]; have := HN12.out; omega) h1 (Sl.take' (HSA.out V (Ext.trans HX3.out hV)) q)
              rw [HQN.out] at this
              exact this
            have HCV3 : Hid (∀ V, Ext w3 V → (convert 22 9 (.slice (some ⟨wr.heap.size, 0, none⟩) d c1)).run Try.prog V = .ok (.string (str D')) V) := fun V hV => HCV.out V (Ext.trans hx hV)
            have E3 : Hid (Ext w3 w3) := Ext.refl _
            clear hs3 hc3 hx
            go_wp2
            refine ext_begin (by kernel_rfl) ?_
            have E3d := Lib.hid (Ext.drewR E3.out)
            refine ext_take (i := 0) (v := ?_) rfl (by kernel_rfl) (by kernel_rfl) (by kernel_rfl) (fun _ _ _ h => h) (by rfl) ?_ ?_
            rotate_left
            · intro W hW; have hW0 := Ext.trans E3d.out hW; clear hW; go_simp <;> with_reducible rfl
            try simp only [Act.put, List.setIfInBounds_toArray, List.set_cons_zero, List.set_cons_succ]
            refine ext_take (i := 1) (v := ?_) rfl (by kernel_rfl) (by kernel_rfl) (by kernel_rfl) (fun _ _ _ h => h) (by rfl) ?_ ?_
            rotate_left
            · intro W hW; have hW0 := Ext.trans E3d.out hW; clear hW; go_simp <;> with_reducible rfl
            try simp only [Act.put, List.setIfInBounds_toArray, List.set_cons_zero, List.set_cons_succ]
            refine ext_take (i := 2) (v := ?_) rfl (by kernel_rfl) (by kernel_rfl) (by kernel_rfl) (fun _ _ _ h => h) (by rfl) ?_ ?_
            rotate_left
            · intro W hW; have hW0 := Ext.trans E3d.out hW; clear hW; go_simp <;> with_reducible rfl
            try simp only [Act.put, List.setIfInBounds_toArray, List.set_cons_zero, List.set_cons_succ]
            refine ext_take (i := 3) (v := .bool false) rfl (by kernel_rfl) (by kernel_rfl) (by kernel_rfl) (fun _ _ _ h => h) (by rfl) ?_ ?_
            · intro W hW; have hW0 := Ext.trans E3d.out hW; clear hW; go_simp; all_goals (first | done | (simp; done) | omega)
            try simp only [Act.put, List.setIfInBounds_toArray, List.set_cons_zero, List.set_cons_succ]
            refine ext_take (i := 4) (v := ?_) rfl (by kernel_rfl) (by kernel_rfl) (by kernel_rfl) (fun _ _ _ h => h) (by rfl) ?_ ?_
            rotate_left
            · intro W hW; have hW0 := Ext.trans E3d.out hW; clear hW; go_simp <;> with_reducible rfl
            try simp only [Act.put, List.setIfInBounds_toArray, List.set_cons_zero, List.set_cons_succ]
            refine ext_take (i := 5) (v := ?_) rfl (by kernel_rfl) (by kernel_rfl) (by kernel_rfl) (fun _ _ _ h => h) (by rfl) ?_ ?_
            rotate_left
            · intro W hW; have hW0 := Ext.trans E3d.out hW; clear hW; go_simp <;> with_reducible rfl
            try simp only [Act.put, List.setIfInBounds_toArray, List.set_cons_zero, List.set_cons_succ]
            refine ext_take (i := 6) (v := ?_) rfl (by kernel_rfl) (by kernel_rfl) (by kernel_rfl) (fun _ _ _ h => h) (by rfl) ?_ ?_
            rotate_left
            · intro W hW; have hW0 := Ext.trans E3d.out hW; clear hW; go_simp <;> with_reducible rfl
            try simp only [Act.put, List.setIfInBounds_toArray, List.set_cons_zero, List.set_cons_succ]
            refine ext_take (i := 7) (v := ?_) rfl (by kernel_rfl) (by kernel_rfl) (by kernel_rfl) (fun _ _ _ h => h) (by rfl) ?_ ?_
            rotate_left
            · intro W hW; have hW0 := Ext.trans E3d.out hW; clear hW; go_simp <;> with_reducible rfl
            try simp only [Act.put, List.setIfInBounds_toArray, List.set_cons_zero, List.set_cons_succ]
            refine ext_take (i := 8) (v := ?_) rfl (by kernel_rfl) (by kernel_rfl) (by kernel_rfl) (fun _ _ _ h => h) (by rfl) ?_ ?_
            rotate_left
            · intro W hW; have hW0 := Ext.trans E3d.out hW; clear hW; go_simp <;> with_reducible rfl
            try simp only [Act.put, List.setIfInBounds_toArray, List.set_cons_zero, List.set_cons_succ]
            refine ext_take (i := 9) (v := ?_) rfl (by kernel_rfl) (by kernel_rfl) (by kernel_rfl) (fun _ _ _ h => h) (by rfl) ?_ ?_
            rotate_left
            · intro W hW; have hW0 := Ext.trans E3d.out hW; clear hW; go_simp <;> with_reducible rfl
            try simp only [Act.put, List.setIfInBounds_toArray, List.set_cons_zero, List.set_cons_succ]
            refine ext_take (i := 10) (v := ?_) rfl (by kernel_rfl) (by kernel_rfl) (by kernel_rfl) (fun _ _ _ h => h) (by rfl) ?_ ?_
            rotate_left
            · intro W hW; have hW0 := Ext.trans E3d.out hW; clear hW; go_simp <;> with_reducible rfl
            try simp only [Act.put, List.setIfInBounds_toArray, List.set_cons_zero, List.set_cons_succ]
            refine ext_call (i := 11) rfl (by kernel_rfl) (by rfl) (fun K' hK => ?_)
            go_simp
            (go_at_call 19; (with_reducible refine (CT.out _ E3d.out).mono ?_); rintro e w4 ⟨rfl, hx⟩; refine hK _ _ hx ?_; clear hK)
            have Ew4 := Lib.hid (Ext.trans E3d.out hx)
            clear hx
            try simp only [Act.put, List.setIfInBounds_toArray, List.set_cons_zero, List.set_cons_succ]
            refine ext_take (i := 12) (v := ?_) rfl (by kernel_rfl) (by kernel_rfl) (by kernel_rfl) (fun _ _ _ h => h) (by rfl) ?_ ?_
            rotate_left
            · intro W hW; have hW0 := Ext.trans Ew4.out hW; clear hW; go_simp <;> with_reducible rfl
            try simp only [Act.put, List.setIfInBounds_toArray, List.set_cons_zero, List.set_cons_succ]
            refine ext_take (i := 13) (v := ?_) rfl (by kernel_rfl) (by kernel_rfl) (by kernel_rfl) (fun _ _ _ h => h) (by rfl) ?_ ?_
            rotate_left
            · intro W hW; have hW0 := Ext.trans Ew4.out hW; clear hW; go_simp <;> with_reducible rfl
            try simp only [Act.put, List.setIfInBounds_toArray, List.set_cons_zero, List.set_cons_succ]
            refine wpAnyH_done (by kernel_rfl) ?_ _
            have HX4 : Hid (Ext wr w4) := Ext.trans HX3.out Ew4.out
            have HS4 := Lib.hid (HS3.out.stay Ew4.out)
            have hcv4 := HCV3.out w4 Ew4.out
            by_cases h2 : 2 ≤ k - L
            · obtain ⟨h3, h4⟩ := HQ2.out h2
              have hin2 : (2 : Int) ≤ (k : Int) := by have := HIN.out; omega
              have hr9e : ((r9 : Int) == (q : Int)) = true := by
                rw [beq_iff_eq]
                have h5 := HR9.out
                rw [h3, HQN.out] at h5
                omega
              have hez := HEZ.out h4
              clear h3 h4 h2 hcv4 hq33 hr9q
              go_wp2_with (go_at_call 14; (with_reducible refine (HTO.out _).mono ?_); rintro e w5 ⟨rfl, hx⟩; have HX5 : Hid (Ext wr w5) := Ext.trans HX4.out hx; clear hx)
              try go_ret
              exact hD.out _ _ ⟨rfl, Ext.trans HXR.out HX5.out⟩
            · have hin2 : ¬ (2 : Int) ≤ (k : Int) := by have := HIN.out; omega
              have CRC0 : Hid (∀ V, Calls Try.prog 20 #[.string ⟨#[]⟩] V fun e w' => e = .returned (.int .u32 0) ∧ V = w') := fun V => refCrc_any ⟨#[]⟩ V (by decide)
              clear h2 hq33 hr9q
              go_wp2_with (first
                | (go_at_call 18; (with_reducible refine (CRR.out _).mono ?_); rintro e w5 ⟨A5, c5, rfl, hs5, hx⟩; have HX5 : Hid (Ext wr w5) := Ext.trans HX4.out hx; have HS5 := Lib.hid hs5; have HS45 := Lib.hid (HS4.out.stay hx); clear hs5 hx)
                | (go_at_call 14; (with_reducible refine (HTO.out _).mono ?_); rintro e w6 ⟨rfl, hx⟩; have HX6 : Hid (Ext wr w6) := Ext.trans HX5.out hx; have CT6 : Hid (Calls Try.prog 19 #[.slice A3 r9 c3, .slice A5 r9 c5] w6 fun e w' => e = .returned (.bool true) ∧ Ext w6 w') := (by have := HTX.out w6 A3 A5 c3 c5 (readB D') (by have h1 := HRL.out; have h2 := HR9.out; omega) (HS45.out.stay hx) (HS5.out.stay hx); rw [HR9.out] at this; exact this); clear hx)
                | (go_at_call 19; (with_reducible refine CT6.out.mono ?_); rintro e w7 ⟨rfl, hx⟩; have HX7 : Hid (Ext wr w7) := Ext.trans HX6.out hx; clear hx)
                | (go_at_call 20; (with_reducible refine (CRC0.out _).mono ?_); rintro e w8 ⟨rfl, rfl⟩))
              try go_ret
              exact hD.out _ _ ⟨rfl, Ext.trans HXR.out HX7.out⟩
          · have hqi : (0 : Int) < (q : Int) := by omega
            have hqe : ((q : Int) == 0) = false := by rw [beq_eq_false_iff_ne]; omega
            have cq := HQ0.out (by omega) W9 HX9.out
            have HCQ : Hid (∀ V, Ext wr V → V.cell? ⟨b6, o6 + (q - 1), none⟩ = some (.int .i64 (L : Nat))) := HQ0.out (by omega)
            have HLk : Hid (L ≤ k) := hql
            have hq2 : (0 : Int) ≤ (q : Int) - 1 := by omega
            have hq3 : (q : Int) - 1 < (n : Int) := by omega
            have hq4 : ((q : Int) - 1).toNat = q - 1 := by omega
            have hw9 : IntKind.i64.wrap ((k : Int) - (L : Int)) = (k : Int) - (L : Int) := IntWalk.i64_in _ (by omega)
            have HEZ : Hid (e9 = L → ((e9 : Int) == (L : Int)) = true) := fun h => by rw [beq_iff_eq]; omega
            clear hqz
            go_wp2_with fail
            go_at_call 17
            with_reducible refine CR.out.mono ?_
            rintro e w3 ⟨A3, c3, rfl, hs3, hc3, hx⟩
            have HX3 : Hid (Ext wr w3) := Ext.trans HX9.out hx
            have HS3 := Lib.hid hs3
            have hq33 : (q : Int) ≤ (c3 : Int) := by have := HR9.out; have := HQR9.out; omega
            have hqi0 : (0 : Int) ≤ (q : Int) := by omega
            have hr9q : ¬ (r9 : Int) < (q : Int) := by have := HQR9.out; have := HR9.out; omega
            have CT : Hid (∀ V, Ext w3 V → Calls Try.prog 19 #[.slice A3 q c3, .slice A7 q c7] V fun e w' => e = .returned (.bool true) ∧ Ext V w') := fun V hV => by
              have h1 := (HS3.out.stay hV).take' q
              rw [HQT.out] at h1
              have := HTX.out V A3 A7 c3 c7 (l.take q) (by rw [HQN.out]; have := HN12.out; omega) h1 (Sl.take' (HSA.out V (Ext.trans HX3.out hV)) q)
              rw [HQN.out] at this
              exact this
            have HCV3 : Hid (∀ V, Ext w3 V → (convert 22 9 (.slice (some ⟨wr.heap.size, 0, none⟩) d c1)).run Try.prog V = .ok (.string (str D')) V) := fun V hV => HCV.out V (Ext.trans hx hV)
            have E3 : Hid (Ext w3 w3) := Ext.refl _
            clear hs3 hc3 hx
            go_wp2
            refine ext_begin (by kernel_rfl) ?_
            have E3d := Lib.hid (Ext.drewR E3.out)
            refine ext_take (i := 0) (v := ?_) rfl (by kernel_rfl) (by kernel_rfl) (by kernel_rfl) (fun _ _ _ h => h) (by rfl) ?_ ?_
            rotate_left
            · intro W hW; have hW0 := Ext.trans E3d.out hW; clear hW; go_simp <;> with_reducible rfl
            try simp only [Act.put, List.setIfInBounds_toArray, List.set_cons_zero, List.set_cons_succ]
            refine ext_take (i := 1) (v := ?_) rfl (by kernel_rfl) (by kernel_rfl) (by kernel_rfl) (fun _ _ _ h => h) (by rfl) ?_ ?_
            rotate_left
            · intro W hW; have hW0 := Ext.trans E3d.out hW; clear hW; go_simp <;> with_reducible rfl
            try simp only [Act.put, List.setIfInBounds_toArray, List.set_cons_zero, List.set_cons_succ]
            refine ext_take (i := 2) (v := ?_) rfl (by kernel_rfl) (by kernel_rfl) (by kernel_rfl) (fun _ _ _ h => h) (by rfl) ?_ ?_
            rotate_left
            · intro W hW; have hW0 := Ext.trans E3d.out hW; clear hW; go_simp <;> with_reducible rfl
            try simp only [Act.put, List.setIfInBounds_toArray, List.set_cons_zero, List.set_cons_succ]
            refine ext_take (i := 3) (v := .bool false) rfl (by kernel_rfl) (by kernel_rfl) (by kernel_rfl) (fun _ _ _ h => h) (by rfl) ?_ ?_
            · intro W hW; have hW0 := Ext.trans E3d.out hW; clear hW; go_simp; all_goals (first | done | (simp; done) | omega)
            try simp only [Act.put, List.setIfInBounds_toArray, List.set_cons_zero, List.set_cons_succ]
            refine ext_take (i := 4) (v := ?_) rfl (by kernel_rfl) (by kernel_rfl) (by kernel_rfl) (fun _ _ _ h => h) (by rfl) ?_ ?_
            rotate_left
            · intro W hW; have hW0 := Ext.trans E3d.out hW; clear hW; go_simp <;> with_reducible rfl
            try simp only [Act.put, List.setIfInBounds_toArray, List.set_cons_zero, List.set_cons_succ]
            refine ext_take (i := 5) (v := ?_) rfl (by kernel_rfl) (by kernel_rfl) (by kernel_rfl) (fun _ _ _ h => h) (by rfl) ?_ ?_
            rotate_left
            · intro W hW; have hW0 := Ext.trans E3d.out hW; clear hW; go_simp <;> with_reducible rfl
            try simp only [Act.put, List.setIfInBounds_toArray, List.set_cons_zero, List.set_cons_succ]
            refine ext_take (i := 6) (v := ?_) rfl (by kernel_rfl) (by kernel_rfl) (by kernel_rfl) (fun _ _ _ h => h) (by rfl) ?_ ?_
            rotate_left
            · intro W hW; have hW0 := Ext.trans E3d.out hW; clear hW; go_simp <;> with_reducible rfl
            try simp only [Act.put, List.setIfInBounds_toArray, List.set_cons_zero, List.set_cons_succ]
            refine ext_take (i := 7) (v := ?_) rfl (by kernel_rfl) (by kernel_rfl) (by kernel_rfl) (fun _ _ _ h => h) (by rfl) ?_ ?_
            rotate_left
            · intro W hW; have hW0 := Ext.trans E3d.out hW; clear hW; go_simp <;> with_reducible rfl
            try simp only [Act.put, List.setIfInBounds_toArray, List.set_cons_zero, List.set_cons_succ]
            refine ext_take (i := 8) (v := ?_) rfl (by kernel_rfl) (by kernel_rfl) (by kernel_rfl) (fun _ _ _ h => h) (by rfl) ?_ ?_
            rotate_left
            · intro W hW; have hW0 := Ext.trans E3d.out hW; clear hW; go_simp <;> with_reducible rfl
            try simp only [Act.put, List.setIfInBounds_toArray, List.set_cons_zero, List.set_cons_succ]
            refine ext_take (i := 9) (v := ?_) rfl (by kernel_rfl) (by kernel_rfl) (by kernel_rfl) (fun _ _ _ h => h) (by rfl) ?_ ?_
            rotate_left
            · intro W hW; have hW0 := Ext.trans E3d.out hW; clear hW; go_simp <;> with_reducible rfl
            try simp only [Act.put, List.setIfInBounds_toArray, List.set_cons_zero, List.set_cons_succ]
            refine ext_take (i := 10) (v := ?_) rfl (by kernel_rfl) (by kernel_rfl) (by kernel_rfl) (fun _ _ _ h => h) (by rfl) ?_ ?_
            rotate_left
            · intro W hW; have hW0 := Ext.trans E3d.out hW; clear hW; go_simp <;> with_reducible rfl
            try simp only [Act.put, List.setIfInBounds_toArray, List.set_cons_zero, List.set_cons_succ]
            refine ext_call (i := 11) rfl (by kernel_rfl) (by rfl) (fun K' hK => ?_)
            go_simp
            (go_at_call 19; (with_reducible refine (CT.out _ E3d.out).mono ?_); rintro e w4 ⟨rfl, hx⟩; refine hK _ _ hx ?_; clear hK)
            have Ew4 := Lib.hid (Ext.trans E3d.out hx)
            clear hx
            try simp only [Act.put, List.setIfInBounds_toArray, List.set_cons_zero, List.set_cons_succ]
            refine ext_take (i := 12) (v := ?_) rfl (by kernel_rfl) (by kernel_rfl) (by kernel_rfl) (fun _ _ _ h => h) (by rfl) ?_ ?_
            rotate_left
            · intro W hW; have hW0 := Ext.trans Ew4.out hW; clear hW; go_simp <;> with_reducible rfl
            try simp only [Act.put, List.setIfInBounds_toArray, List.set_cons_zero, List.set_cons_succ]
            refine ext_take (i := 13) (v := ?_) rfl (by kernel_rfl) (by kernel_rfl) (by kernel_rfl) (fun _ _ _ h => h) (by rfl) ?_ ?_
            rotate_left
            · intro W hW; have hW0 := Ext.trans Ew4.out hW; clear hW; go_simp <;> with_reducible rfl
            try simp only [Act.put, List.setIfInBounds_toArray, List.set_cons_zero, List.set_cons_succ]
            refine wpAnyH_done (by kernel_rfl) ?_ _
            have HX4 : Hid (Ext wr w4) := Ext.trans HX3.out Ew4.out
            have HS4 := Lib.hid (HS3.out.stay Ew4.out)
            have hcv4 := HCV3.out w4 Ew4.out
            by_cases h2 : 2 ≤ k - L
            · obtain ⟨h3, h4⟩ := HQ2.out h2
              have hin2 : (2 : Int) ≤ (k : Int) - (L : Int) := by have := HLk.out; omega
              have hr9e : ((r9 : Int) == (q : Int)) = true := by
                rw [beq_iff_eq]
                have h5 := HR9.out
                rw [h3, HQN.out] at h5
                omega
              have hez := HEZ.out h4
              clear h3 h4 h2 hcv4 hq33 hr9q
              go_wp2_with (go_at_call 14; (with_reducible refine (HTO.out _).mono ?_); rintro e w5 ⟨rfl, hx⟩; have HX5 : Hid (Ext wr w5) := Ext.trans HX4.out hx; have cq5 := HCQ.out w5 (Ext.trans HX4.out hx); clear hx)
              try go_ret
              exact hD.out _ _ ⟨rfl, Ext.trans HXR.out HX5.out⟩
            · have hin2 : ¬ (2 : Int) ≤ (k : Int) - (L : Int) := by have := HLk.out; omega
              have CRC0 : Hid (∀ V, Calls Try.prog 20 #[.string ⟨#[]⟩] V fun e w' => e = .returned (.int .u32 0) ∧ V = w') := fun V => refCrc_any ⟨#[]⟩ V (by decide)
              clear h2 hq33 hr9q
              go_wp2_with (first
                | (go_at_call 18; (with_reducible refine (CRR.out _).mono ?_); rintro e w5 ⟨A5, c5, rfl, hs5, hx⟩; have HX5 : Hid (Ext wr w5) := Ext.trans HX4.out hx; have HS5 := Lib.hid hs5; have HS45 := Lib.hid (HS4.out.stay hx); clear hs5 hx)
                | (go_at_call 14; (with_reducible refine (HTO.out _).mono ?_); rintro e w6 ⟨rfl, hx⟩; have HX6 : Hid (Ext wr w6) := Ext.trans HX5.out hx; have CT6 : Hid (Calls Try.prog 19 #[.slice A3 r9 c3, .slice A5 r9 c5] w6 fun e w' => e = .returned (.bool true) ∧ Ext w6 w') := (by have := HTX.out w6 A3 A5 c3 c5 (readB D') (by have h1 := HRL.out; have h2 := HR9.out; omega) (HS45.out.stay hx) (HS5.out.stay hx); rw [HR9.out] at this; exact this); clear hx)
                | (go_at_call 19; (with_reducible refine CT6.out.mono ?_); rintro e w7 ⟨rfl, hx⟩; have HX7 : Hid (Ext wr w7) := Ext.trans HX6.out hx; clear hx)
                | (go_at_call 20; (with_reducible refine (CRC0.out _).mono ?_); rintro e w8 ⟨rfl, rfl⟩))
              try go_ret
              exact hD.out _ _ ⟨rfl, Ext.trans HXR.out HX7.out⟩
set_option maxRecDepth 100000 in
theorem law_walTurned {H : Type} {enc : TypeId × Value → H} (W : World) (base : Nat) (args : Array Value) (ds : List (DataW H)) (p : List MemPlace)
    (hval : ∀ (j : Nat) t v, Try.f5.params[j]? = some t → args[j]? = some v → Value.okWide Try.prog W .any base t v)
    (hA : DataW.TrodAll enc Try.prog W 0 (fun _ => true) true Try.f5.params.toList args.toList ds p) :
    Calls Try.prog 5 args W fun e W' => e = .returned (.bool true) ∧ Below W.heap.size W W' := by
  rw [Try.params5] at hA hval
  obtain ⟨v0, vs0, d0, ds0, p0, q0, hargs, rfl, rfl, h0, r0⟩ := trodAll_cons hA
  obtain ⟨v1, vs1, d1, ds1, p1, q1, rfl, rfl, rfl, h1, r1⟩ := trodAll_cons r0
  obtain ⟨v2, vs2, d2, ds2, p2, q2, rfl, rfl, rfl, h2, r2⟩ := trodAll_cons r1
  obtain ⟨rfl, rfl, rfl⟩ := trodAll_nil r2
  obtain rfl : args = #[v0, v1, v2] := by cases args; simp_all
  obtain ⟨A0, n0, c0, rfl⟩ := okWide_slice Try.underlying27 (hval 0 27 v0 rfl rfl)
  obtain ⟨fuel0, hf0⟩ := h0
  obtain ⟨B0, l0, e0, hcs0, x0, y0, z0⟩ := open_recs hf0
  simp only [Value.cells, List.cons.injEq, Value.slice.injEq, and_true] at hcs0
  obtain ⟨rfl, rfl, rfl⟩ := hcs0
  obtain ⟨a1, rfl, rfl, rfl, w1⟩ := open_int Try.underlying3 (hval 1 3 v1 rfl rfl) h1
  obtain ⟨a2, rfl, rfl, rfl, w2⟩ := open_int Try.underlying5 (hval 2 5 v2 rfl rfl) h2
  exact walk_walTurned A0 l0 c0 a1 a2 W x0 y0 z0 (bounds_u8 w2)

end Go.Proofs.Ytgcclkdlomifcaa
