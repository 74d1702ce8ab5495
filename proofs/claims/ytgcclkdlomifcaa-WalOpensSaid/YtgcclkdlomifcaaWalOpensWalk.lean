/-
  The walk of the law WalOpens.
-/
import Derived.Test.YtgcclkdlomifcaaWalDisk
namespace Go.Proofs.Ytgcclkdlomifcaa
set_option linter.unusedVariables false
set_option linter.unusedSimpArgs false
open Go.RowKit Go.ChangeShapes Go.WideShapes

set_option maxRecDepth 100000 in
set_option maxHeartbeats 32000000 in
theorem walk_walOpens (A : Option Addr) (l : List (List UInt8)) (cap : Nat) (sy kp : Int) (M : Option Addr) (capM : Nat) (lm : List UInt8) (w : World) (hn : l.length ≤ 9223372036854775807) (hs : Sls w A l) (hlx : ∀ x ∈ l, x.length ≤ 9223372036854775807) (hm : lm.length ≤ 9223372036854775807) (hsm : Sl Go.Proofs.Ytgcclkdlomifcaa.u8 w M lm) :
    Calls Try.prog 13 #[.slice A l.length cap, .int .i64 sy, .int .i64 kp, .slice M lm.length capM] w fun e w' => e = .returned (.bool true) ∧ Below w.heap.size w w' := by
  refine hide_post fun DP hD => ?_
  have HTO : Hid (∀ V, Calls Try.prog 14 #[] V fun e w' => e = .returned (.bool true) ∧ Ext V w') := told8
  have HS := Lib.hid hs
  have HLX := Lib.hid hlx
  have HSM := Lib.hid hsm
  obtain ⟨n, hln⟩ : ∃ n, n = l.length := ⟨_, rfl⟩
  obtain ⟨m, hlm⟩ : ∃ m, m = lm.length := ⟨_, rfl⟩
  rw [← hln] at hn ⊢
  rw [← hlm] at hm ⊢
  have HLN := Lib.hid hln
  have HLM := Lib.hid hlm
  clear hs hln hlx hlm hsm
  go_enter Try.func13, Try.ntmps13
  go_wp2_with fail
  go_at_call 51
  with_reducible refine (dk_new w w (Below.refl _ _)).mono ?_
  rintro e w1 ⟨rfl, hd1, hx1⟩
  have HD1 : Hid (Dk w w1 w.heap.size [] 0) := hd1
  clear hd1 hx1
  by_cases h10 : (10 : Int) < (n : Int)
  · go_wp2_with (go_at_call 14; (with_reducible refine (HTO.out _).mono ?_); rintro e w2 ⟨rfl, hx⟩; have HX := Lib.hid hx; clear hx)
    try go_ret
    exact hD.out _ _ ⟨rfl, Ext.trans HD1.out.1 HX.out⟩
  by_cases hm1 : (m : Int) < 1
  · go_wp2_with (go_at_call 14; (with_reducible refine (HTO.out _).mono ?_); rintro e w2 ⟨rfl, hx⟩; have HX := Lib.hid hx; clear hx)
    try go_ret
    exact hD.out _ _ ⟨rfl, Ext.trans HD1.out.1 HX.out⟩
  by_cases hm60 : (60 : Int) < (m : Int)
  · go_wp2_with (go_at_call 14; (with_reducible refine (HTO.out _).mono ?_); rintro e w2 ⟨rfl, hx⟩; have HX := Lib.hid hx; clear hx)
    try go_ret
    exact hD.out _ _ ⟨rfl, Ext.trans HD1.out.1 HX.out⟩
  have hn10 : n ≤ 10 := by omega
  have HN10 := Lib.hid hn10
  have HM60 : Hid (1 ≤ m ∧ m ≤ 60) := ⟨by omega, by omega⟩
  go_wp2
  go_loop [10] (fun i => ∃ (j : Nat), j ≤ n ∧ i = .int .i64 j ∧ Hid (∀ x ∈ l.take j, 1 ≤ x.length ∧ x.length ≤ 60)) (fun i => n - (intOf i).toNat)
  case atStart => exact ⟨0, by omega, rfl, (fun x hx => by simp at hx)⟩
  case round =>
    obtain ⟨j, hj, rfl, HOK⟩ := hrel
    by_cases hlt : j < n
    · obtain ⟨x, hx⟩ : ∃ x, l[j]? = some x := ⟨_, List.getElem?_eq_getElem (by rw [← HLN.out]; exact hlt)⟩
      obtain ⟨b, o, A', c', rfl, q0, qs⟩ := HS.out j x hx
      have c0 : w1.cell? ⟨b, o + j, none⟩ = some (.slice A' x.length c') := cell_stay HD1.out.1 q0
      have HPN : Hid (l.take (j + 1) = l.take j ++ [x]) := by (show _ = _); rw [List.take_add_one, hx]; rfl
      have hj0 : (0 : Int) ≤ (j : Int) := by omega
      have hjn : (j : Int) < (n : Int) := by omega
      have hxb := HLX.out x (List.mem_of_getElem? hx)
      obtain ⟨xn, hxn⟩ : ∃ xn, xn = x.length := ⟨_, rfl⟩
      rw [← hxn] at c0 hxb
      have HXN := Lib.hid hxn
      clear q0 qs hx hxn
      by_cases g1 : (xn : Int) < 1
      · go_wp2_with (go_at_call 14; (with_reducible refine (HTO.out _).mono ?_); rintro e w2 ⟨rfl, hx⟩; have HX := Lib.hid hx; clear hx)
        try go_ret
        exact hD.out _ _ ⟨rfl, Ext.trans HD1.out.1 HX.out⟩
      by_cases g2 : (60 : Int) < (xn : Int)
      · go_wp2_with (go_at_call 14; (with_reducible refine (HTO.out _).mono ?_); rintro e w2 ⟨rfl, hx⟩; have HX := Lib.hid hx; clear hx)
        try go_ret
        exact hD.out _ _ ⟨rfl, Ext.trans HD1.out.1 HX.out⟩
      have HOK2 : Hid (∀ y ∈ l.take (j + 1), 1 ≤ y.length ∧ y.length ≤ 60) := fun y hy => by
        rw [HPN.out] at hy
        rcases List.mem_append.1 hy with h1 | h1
        · exact HOK.out y h1
        · rw [List.mem_singleton.1 h1, ← HXN.out]; omega
      go_wp2
      go_round
      case rel => exact ⟨j + 1, by omega, by go_num, HOK2⟩
      case measure => simp [intOf]; omega
    · obtain rfl : n = j := by omega
      have htl : l.take n = l := List.take_of_length_le (by rw [← HLN.out]; exact Nat.le_refl _)
      rw [htl] at HOK
      have HOKR : Hid (okR l) := fun x hx => ⟨(HOK.out x hx).1, by have := (HOK.out x hx).2; omega⟩
      have HDL : Hid (∀ i, (catB (l.take i)).length ≤ 660) := fun i => by
        have h1 := catB_le (l.take i) 60 (fun y hy => (HOK.out y (List.mem_of_mem_take hy)).2)
        have h2 : (l.take i).length ≤ l.length := by rw [List.length_take]; omega
        have h3 := HLN.out
        have h4 := HN10.out
        omega
      obtain ⟨k, hk, hkm⟩ : ∃ k : Nat, k ≤ n ∧ (IntKind.u64.wrap sy).tmod ((n : Int) + 1) = (k : Int) := by
        have hw : 0 ≤ IntKind.u64.wrap sy := by
          rw [show IntKind.u64.wrap sy = sy % 18446744073709551616 by simp [IntKind.wrap, IntKind.bits, IntKind.signed]]; omega
        have e := Int.tmod_eq_emod_of_nonneg (b := (n : Int) + 1) hw
        have e2 := Int.emod_nonneg (IntKind.u64.wrap sy) (show (n : Int) + 1 ≠ 0 by omega)
        have e3 := Int.emod_lt_of_pos (IntKind.u64.wrap sy) (show (0 : Int) < (n : Int) + 1 by omega)
        exact ⟨((IntKind.u64.wrap sy).tmod ((n : Int) + 1)).toNat, by omega, by omega⟩
      have hwd : IntKind.u64.wrap ((n : Int) + 1) = (n : Int) + 1 := by
        rw [show IntKind.u64.wrap ((n : Int) + 1) = ((n : Int) + 1) % 18446744073709551616 by simp [IntKind.wrap, IntKind.bits, IntKind.signed]]
        omega
      have HST : Hid (Dk w w1 w.heap.size (catB (l.take 0)) (if k ≤ 0 then (catB (l.take k)).length else 0) ∧ w1.ownsRow w.heap.size 9 1 (.slice none 0 0) 0 ((l.take 0).map strV)) := by
        refine ⟨?_, World.ownsRow_nil _ _ _ _⟩
        have e : (if k ≤ 0 then (catB (l.take k)).length else 0) = 0 := by
          split
          · rename_i h; rw [show k = 0 by omega]; rfl
          · rfl
        rw [e]
        exact HD1.out
      clear htl HOK hn10 h10 hm1 hm60
      go_wp2
      go_loopw [12, 13] (fun a i wr => ∃ (j : Nat) (A7 : Option Addr) (c7 : Nat), j ≤ n ∧ a = .slice A7 j c7 ∧ i = .int .i64 j ∧ Hid (Dk w wr w.heap.size (catB (l.take j)) (if k ≤ j then (catB (l.take k)).length else 0) ∧ wr.ownsRow w.heap.size 9 1 (.slice A7 j c7) j ((l.take j).map strV))) (fun _ i _ => n - (intOf i).toNat)
      case atStart => exact ⟨0, none, 0, by omega, rfl, rfl, HST.out⟩
      case round =>
        obtain ⟨j, A7, c7, hj, rfl, rfl, HQ⟩ := hrel
        by_cases hlt : j < n
        · obtain ⟨x, hx⟩ : ∃ x, l[j]? = some x := ⟨_, List.getElem?_eq_getElem (by rw [← HLN.out]; exact hlt)⟩
          obtain ⟨b, o, A', c', rfl, q0, qs⟩ := HS.out j x hx
          have hxo := HOKR.out x (List.mem_of_getElem? hx)
          obtain ⟨xn, hxn⟩ : ∃ xn, xn = x.length := ⟨_, rfl⟩
          have HC0 : Hid (∀ V, Ext w V → V.cell? ⟨b, o + j, none⟩ = some (.slice A' xn c')) := fun V h => by rw [hxn]; exact cell_stay h q0
          have HSX : Hid (∀ V, Ext w V → Sl Go.Proofs.Ytgcclkdlomifcaa.u8 V A' x) := fun V h => qs.stay h
          have htk : l.take (j + 1) = l.take j ++ [x] := by rw [List.take_add_one, hx]; rfl
          have hcat : catB (l.take (j + 1)) = catB (l.take j) ++ frameB x := by rw [htk, catB_append]; simp [catB]
          have c0 := HC0.out wr HQ.out.1.1
          have hj0 : (0 : Int) ≤ (j : Int) := by omega
          have hjn : (j : Int) < (n : Int) := by omega
          have CP : Hid (Calls Try.prog 52 #[.pointer (some ⟨w.heap.size, 0, none⟩), .slice A' xn c'] wr fun e w' => e = .returned (.int .i64 0) ∧ Dk w w' w.heap.size (catB (l.take (j + 1))) (if k ≤ j then (catB (l.take k)).length else 0) ∧ w'.ownsRow w.heap.size 9 1 (.slice A7 j c7) j ((l.take j).map strV)) := by
            have h6 := HDL.out j
            have := putD_yes HQ.out.1 A' c' x (HSX.out wr HQ.out.1.1) hxo.1 hxo.2 (by omega)
            rw [← hxn, ← hcat] at this
            exact this.mono fun e w' ⟨h1, h2, h3⟩ => ⟨h1, h2, own_oth HQ.out.2 h3 (by decide) (by decide)⟩
          have HTK : Hid ((l.take j).map strV ++ [strV x] = (l.take (j + 1)).map strV) := by (show _ = _); rw [htk, List.map_append]; rfl
          have HCX : Hid (∀ V, Ext w V → (convert 22 9 (.slice A' xn c')).run Try.prog V = .ok (.string (str x)) V) := fun V hV => by
            have := run_strB A' x c' V (HSX.out V hV)
            rw [← hxn] at this
            exact this
          have HSY : Hid (∀ V, Dk w V w.heap.size (catB (l.take (j + 1))) (if k ≤ j then (catB (l.take k)).length else 0) → ¬ j + 1 = k → Dk w V w.heap.size (catB (l.take (j + 1))) (if k ≤ j + 1 then (catB (l.take k)).length else 0)) := fun V h hne => by
            by_cases h1 : k ≤ j
            · rw [if_pos h1] at h; rw [if_pos (by omega)]; exact h
            · rw [if_neg h1] at h; rw [if_neg (by omega)]; exact h
          have HSZ : Hid (∀ V, Dk w V w.heap.size (catB (l.take (j + 1))) (catB (l.take (j + 1))).length → j + 1 = k → Dk w V w.heap.size (catB (l.take (j + 1))) (if k ≤ j + 1 then (catB (l.take k)).length else 0)) := fun V h he => by
            rw [if_pos (by omega), ← he]; exact h
          have HDJ : Hid ((catB (l.take (j + 1))).length ≤ 1000000000000) := by have := HDL.out (j + 1); (show _ ≤ _); omega
          clear q0 qs hx hxo hxn htk hcat HST
          generalize hs0 : (if k ≤ j then (catB (l.take k)).length else 0) = s0 at *
          clear hs0
          generalize hs1 : (if k ≤ j + 1 then (catB (l.take k)).length else 0) = s1 at *
          have HS1 := Lib.hid hs1
          clear hs1
          go_wp2_with fail
          go_at_call 52
          with_reducible refine CP.out.mono ?_
          rintro e w2 ⟨rfl, hd2, ho2⟩
          have HD2 := Lib.hid hd2
          have HO2 := Lib.hid ho2
          have c0 := HC0.out w2 hd2.1
          have hcx := HCX.out w2 hd2.1
          have hz2 := hd2.1.size
          clear hd2 ho2 CP
          by_cases hjk : j + 1 = k
          · have hje : ((j : Int) + 1 == (k : Int)) = true := by rw [beq_iff_eq]; omega
            have HJK := Lib.hid hjk
            clear hjk
            go_wp2_with (first
              | (at_builtin; refine wpList_append_list rfl (.tmp 77) (.tmp 83) 30 rfl w.heap.size 9 (.string ⟨#[]⟩) 16 Try.underlying30 info_str rfl (by omega) (.slice A7 j c7) j ((l.take j).map strV) rfl (HO2.out.alloc _) strV (some ⟨w2.heap.size, 0, none⟩) [x] 1 1 rfl rfl (Sl.of_blk (Blk.new w2 9 #[.string (str x)]) (fun j v hj => by match j, hj with | 0, hj => (simp at hj; subst hj; rfl))) (fun _ => rfl) (by simp; omega) (by simp; omega) ?_; intro u7 w3 o7 g7 _; obtain ⟨A7', c7', rfl⟩ := own_shape o7; have HO3 := Lib.hid o7; have HD3 := Lib.hid ((HD2.out.stay (Ext.alloc _ _)).grown g7 (HO2.out.alloc _)); clear o7 g7)
              | (go_at_call 53; (with_reducible refine (dk_sync HD3.out HDJ.out).mono ?_); rintro e w4 ⟨rfl, hd4, ho4⟩; have HD4 := Lib.hid hd4; have HO4 := Lib.hid (own_oth HO3.out ho4 (by decide) (by decide)); clear hd4 ho4))
            go_roundw
            case rel => exact ⟨j + 1, A7', c7', by omega, rfl, by go_num, by rw [HS1.out]; exact HSZ.out _ HD4.out HJK.out, by have := HO4.out; rw [← HTK.out]; simpa using this⟩
            case measure => simp [intOf]; omega
          · have hje : ((j : Int) + 1 == (k : Int)) = false := by rw [beq_eq_false_iff_ne]; omega
            have HJK := Lib.hid hjk
            clear hjk
            go_wp2_with (at_builtin; refine wpList_append_list rfl (.tmp 77) (.tmp 83) 30 rfl w.heap.size 9 (.string ⟨#[]⟩) 16 Try.underlying30 info_str rfl (by omega) (.slice A7 j c7) j ((l.take j).map strV) rfl (HO2.out.alloc _) strV (some ⟨w2.heap.size, 0, none⟩) [x] 1 1 rfl rfl (Sl.of_blk (Blk.new w2 9 #[.string (str x)]) (fun j v hj => by match j, hj with | 0, hj => (simp at hj; subst hj; rfl))) (fun _ => rfl) (by simp; omega) (by simp; omega) ?_; intro u7 w3 o7 g7 _; obtain ⟨A7', c7', rfl⟩ := own_shape o7; have HO3 := Lib.hid o7; have HD3 := Lib.hid ((HD2.out.stay (Ext.alloc _ _)).grown g7 (HO2.out.alloc _)); clear o7 g7)
            go_roundw
            case rel => exact ⟨j + 1, A7', c7', by omega, rfl, by go_num, by rw [HS1.out]; exact HSY.out _ HD3.out HJK.out, by have := HO3.out; rw [← HTK.out]; simpa using this⟩
            case measure => simp [intOf]; omega
        · obtain rfl : n = j := by omega
          have htl : l.take n = l := List.take_of_length_le (by rw [← HLN.out]; exact Nat.le_refl _)
          obtain ⟨mm, hmm⟩ : ∃ mm, mm = keepN (catB (l.take n)).length (if k ≤ n then (catB (l.take k)).length else 0) kp := ⟨_, rfl⟩
          have hbnd := HDL.out n
          have hkk := catB_mono l hk
          have hmm1 : (catB (l.take k)).length ≤ mm := by rw [hmm, if_pos hk]; unfold keepN; omega
          have hmm2 : mm ≤ (catB l).length := by rw [hmm, if_pos hk, htl] ; unfold keepN; rw [htl] at hkk; omega
          obtain ⟨q, r, hq, hcut, hsr, hql, hqr⟩ := cat_cut l mm HOKR.out hmm2
          have hkq : k ≤ q := by
            rcases Nat.lt_or_ge q k with h | h
            · exfalso
              have h1 := hqr (by rw [← HLN.out]; omega)
              have h2 := catB_mono l (i := q + 1) (j := k) (by omega)
              omega
            · exact h
          have hokq : okR (l.take q) := fun x hx => HOKR.out x (List.mem_of_mem_take hx)
          have hqlen : (l.take q).length = q := by rw [List.length_take]; omega
          obtain ⟨E, hE⟩ : ∃ E, E = (catB (l.take q)).length := ⟨_, rfl⟩
          obtain ⟨D1, hD1⟩ : ∃ D1, D1 = (catB l).take mm := ⟨_, rfl⟩
          have hr1 : readB D1 = l.take q := by rw [hD1, hcut]; exact read_cat _ _ hokq hsr
          have he1 : endOf (framesB D1) = E := by rw [hD1, hcut, end_cat _ _ hokq hsr, hE]
          have htE : D1.take E = catB (l.take q) := by rw [hD1, hcut, hE, List.take_left]
          have hl1 : D1.length ≤ 660 := by rw [hD1, List.length_take]; rw [htl] at hbnd; omega
          have CCR : Hid (Calls Try.prog 54 #[.pointer (some ⟨w.heap.size, 0, none⟩), .int .i64 kp] wr fun e w' => e = .returned (.tuple #[]) ∧ Dk w w' w.heap.size D1 mm ∧ w'.ownsRow w.heap.size 9 1 (.slice A7 n c7) n (l.map strV)) := by
            have := dk_crash HQ.out.1 kp (by omega)
            rw [← hmm, htl, ← hD1] at this
            exact this.mono fun e w' ⟨h1, h2, h3⟩ => ⟨h1, h2, by have := own_oth HQ.out.2 h3 (by decide) (by decide); rwa [htl] at this⟩
          have HC7 := Lib.hid (own_capV HQ.out.2)
          have HSA : Hid (∀ V, V.ownsRow w.heap.size 9 1 (.slice A7 n c7) n (l.map strV) → Sl strV V A7 l) := fun V h => by
            rw [HLN.out] at h
            obtain ⟨A9, c9, e, hs⟩ := own_view h
            injection e with e1 e2 e3
            subst e1
            exact hs
          have HTX : Hid (∀ (V : World) Z Y c d (xs : List (List UInt8)), xs.length ≤ 1000 → Sls V Z xs → Sl strV V Y xs → Calls Try.prog 19 #[.slice Z xs.length c, .slice Y xs.length d] V fun e w' => e = .returned (.bool true) ∧ Ext V w') := fun V Z Y c d xs h1 h2 h3 => texts_yes Z Y c d xs V (by omega) h2 h3
          have HQK := Lib.hid (And.intro hkq hq)
          have HR1 := Lib.hid hr1
          have HE1 := Lib.hid he1
          have HTE := Lib.hid htE
          have HL1 := Lib.hid hl1
          have HQL := Lib.hid hqlen
          have HOQ := Lib.hid hokq
          have HE := Lib.hid hE
          clear htl hmm hbnd hkk hmm1 hmm2 hcut hsr hql hqr hkq hq hokq hqlen hr1 he1 htE hl1 hD1 hE HQ HST hwd hkm hlt HDL
          go_wp2_with fail
          go_at_call 54
          with_reducible refine CCR.out.mono ?_
          rintro e w2 ⟨rfl, hd2, ho2⟩
          have HD2 := Lib.hid hd2
          have HO2 := Lib.hid ho2
          obtain ⟨d1, hd1l⟩ : ∃ d1, d1 = D1.length := ⟨_, rfl⟩
          have CB : Hid (Calls Try.prog 55 #[.pointer (some ⟨w.heap.size, 0, none⟩)] w2 fun e w' => ∃ A, e = .returned (.slice A d1 d1) ∧ Ext w2 w' ∧ ∀ W', Ext w' W' → (convert 22 9 (.slice A d1 d1)).run Try.prog W' = .ok (.string (str D1)) W') := by
            have := dk_bytes' hd2 (by have := HL1.out; omega)
            rw [← hd1l] at this
            exact this
          clear hd2 ho2 CCR hd1l
          go_wp2_with fail
          go_at_call 55
          with_reducible refine CB.out.mono ?_
          rintro e w3 ⟨AB, rfl, hx3, hcv3⟩
          have HX3 := Lib.hid hx3
          have hcvB := hcv3 w3 (Ext.refl _)
          have CRR : Hid (Calls Try.prog 18 #[.string (str D1)] w3 fun e w' => ∃ A' c', e = .returned (.tuple #[.slice A' q c', .int .i64 E]) ∧ Sl strV w' A' (l.take q) ∧ Ext w3 w') := by
            have := refRead_any D1 w3 (by have := HL1.out; omega)
            rw [HR1.out, HE1.out, HQL.out] at this
            exact this
          clear hx3 hcv3 CB
          go_wp2_with fail
          go_at_call 18
          with_reducible refine CRR.out.mono ?_
          rintro e w4 ⟨AW, cW, rfl, hsw, hx4⟩
          have HX4 : Hid (Ext w2 w4) := Ext.trans HX3.out hx4
          have HSW := Lib.hid hsw
          have CO : Hid (Calls Try.prog 56 #[.pointer (some ⟨w.heap.size, 0, none⟩)] w4 fun e w' => ∃ A' c', e = .returned (.slice A' q c') ∧ Sls w' A' (l.take q) ∧ q ≤ c' ∧ Dk w w' w.heap.size (catB (l.take q)) E ∧ Oth w4 w' ∧ Frm (fun k => k = w.heap.size) w4 w') := by
            have := openD_any (HD2.out.stay HX4.out) (by have := HL1.out; omega)
            rw [HR1.out, HE1.out, HTE.out, HQL.out] at this
            exact this
          have HD4 := Lib.hid (HD2.out.stay HX4.out)
          clear hsw hx4 hcvB CRR
          go_wp2_with fail
          go_at_call 56
          with_reducible refine CO.out.mono ?_
          rintro e w5 ⟨AO, cO, rfl, hso, hco, hd5, ho5, hf5⟩
          have HD5 := Lib.hid hd5
          have HSO := Lib.hid hso
          have HOW5 := Lib.hid (own_oth (own_ext HO2.out HX4.out) ho5 (by decide) (by decide))
          have HSW5 := Lib.hid (HD4.out.strs HSW.out hf5)
          have CT5 : Hid (Calls Try.prog 19 #[.slice AO q cO, .slice AW q cW] w5 fun e w' => e = .returned (.bool true) ∧ Ext w5 w') := by
            have := HTX.out w5 AO AW cO cW (l.take q) (by rw [HQL.out]; have := HN10.out; have := HQK.out.2; have := HLN.out; omega) HSO.out HSW5.out
            rw [HQL.out] at this
            exact this
          have hqc : (q : Int) ≤ (cO : Int) := by omega
          have hq0 : (0 : Int) ≤ (q : Int) := by omega
          have hkq : ¬ (q : Int) < (k : Int) := by have := HQK.out.1; omega
          have hqn : ¬ (n : Int) < (q : Int) := by have := HQK.out.2; have := HLN.out; omega
          have hq7 : (q : Int) ≤ (c7 : Int) := by have := HC7.out; have := HQK.out.2; have := HLN.out; omega
          clear hso hco hd5 ho5 hf5 CO
          go_wp2_with fail
          go_at_call 19
          with_reducible refine CT5.out.mono ?_
          rintro e w6 ⟨rfl, hx6⟩
          have HX6 := Lib.hid hx6
          have HD6 := Lib.hid (HD5.out.stay hx6)
          have CL6 : Hid (Calls Try.prog 57 #[.pointer (some ⟨w.heap.size, 0, none⟩)] w6 fun e w' => e = .returned (.int .i64 E) ∧ w6 = w') := by
            have := dk_len HD6.out (by have := HE.out; have := HTE.out; have h5 := congrArg List.length this; rw [List.length_take] at h5; have := HL1.out; omega)
            rw [← HE.out] at this
            exact this
          have CS6 : Hid (Calls Try.prog 58 #[.pointer (some ⟨w.heap.size, 0, none⟩)] w6 fun e w' => e = .returned (.int .i64 E) ∧ w6 = w') := dk_synced HD6.out
          have CT6 : Hid (Calls Try.prog 19 #[.slice AO q cO, .slice A7 q c7] w6 fun e w' => e = .returned (.bool true) ∧ Ext w6 w') := by
            have := HTX.out w6 AO A7 cO c7 (l.take q) (by rw [HQL.out]; have := HN10.out; have := HQK.out.2; have := HLN.out; omega) (HSO.out.stay hx6) (Sl.take' (HSA.out w6 (own_ext HOW5.out hx6)) q)
            rw [HQL.out] at this
            exact this
          clear hx6 CT5
          go_wp2_with (first
            | (go_at_call 57; (with_reducible refine CL6.out.mono ?_); rintro e w7 ⟨rfl, rfl⟩)
            | (go_at_call 58; (with_reducible refine CS6.out.mono ?_); rintro e w7 ⟨rfl, rfl⟩)
            | (go_at_call 19; (with_reducible refine CT6.out.mono ?_); rintro e w8 ⟨rfl, hx8⟩; have HX8 := Lib.hid hx8; have HD8 := Lib.hid (HD6.out.stay hx8); clear hx8))
          have hEl : (catB (l.take q)).length ≤ 1000 := by
            have h5 := congrArg List.length HTE.out
            rw [List.length_take] at h5
            have := HL1.out
            omega
          have CP8 : Hid (Calls Try.prog 52 #[.pointer (some ⟨w.heap.size, 0, none⟩), .slice M m capM] w8 fun e w' => e = .returned (.int .i64 0) ∧ Dk w w' w.heap.size (catB (l.take q ++ [lm])) E) := by
            have := putD_yes HD8.out M capM lm (HSM.out.stay HD8.out.1) (by have := HM60.out; have := HLM.out; omega) (by have := HM60.out; have := HLM.out; omega) (by omega)
            rw [← HLM.out] at this
            have hc2 : catB (l.take q ++ [lm]) = catB (l.take q) ++ frameB lm := by rw [catB_append]; simp [catB]
            rw [hc2]
            exact this.mono fun e w' ⟨h1, h2, _⟩ => ⟨h1, h2⟩
          have HEL := Lib.hid hEl
          clear hEl hqc hq0 hkq hqn hq7 CL6 CS6 CT6
          go_wp2_with fail
          go_at_call 52
          with_reducible refine CP8.out.mono ?_
          rintro e w9 ⟨rfl, hd9⟩
          have HD9 := Lib.hid hd9
          have CO9 : Hid (Calls Try.prog 56 #[.pointer (some ⟨w.heap.size, 0, none⟩)] w9 fun e w' => ∃ A' c', e = .returned (.slice A' (q + 1) c') ∧ Sls w' A' (l.take q ++ [lm]) ∧ Ext w w') := by
            have hok2 : okR (l.take q ++ [lm]) := fun x hx => by
              rcases List.mem_append.1 hx with h1 | h1
              · exact HOQ.out x h1
              · rw [List.mem_singleton.1 h1]; have := HM60.out; have := HLM.out; omega
            have h7 := openD_any hd9 (by rw [catB_append, List.length_append]; simp [catB, frameB_len]; have := HEL.out; have := HM60.out; have := HLM.out; omega)
            have hr2 : readB (catB (l.take q ++ [lm])) = l.take q ++ [lm] := by have := read_cat _ [] hok2 stepB_nil; rwa [List.append_nil] at this
            rw [hr2, List.length_append, HQL.out] at h7
            exact h7.mono fun e w' ⟨A', c', h1, h2, _, h4, _⟩ => ⟨A', c', h1, h2, h4.1⟩
          clear hd9 CP8
          go_wp2_with fail
          go_at_call 56
          with_reducible refine CO9.out.mono ?_
          rintro e w10 ⟨A10, c10, rfl, hs10, hx10⟩
          obtain ⟨b10, o10, AL, cL, rfl, cl10, hsl10⟩ := hs10 q lm (by rw [List.getElem?_append_right (by rw [HQL.out]; exact Nat.le_refl _), HQL.out, Nat.sub_self]; rfl)
          rw [← HLM.out] at cl10
          have fz : ∀ V, Ext w10 V → V.cell? ⟨b10, o10 + q, none⟩ = some (.slice AL m cL) := fun V h => cell_stay h cl10
          have hcv1 : ∀ V, Ext w10 V → (convert 22 9 (.slice AL m cL)).run Try.prog V = .ok (.string (str lm)) V := fun V h => by
            have := run_strB AL lm cL V (hsl10.stay h)
            rwa [← HLM.out] at this
          have hcv2 : ∀ V, Ext w10 V → (convert 22 9 (.slice M m capM)).run Try.prog V = .ok (.string (str lm)) V := fun V h => by
            have := run_strB M lm capM V (HSM.out.stay (Ext.trans hx10 h))
            rwa [← HLM.out] at this
          have CTO : Hid (∀ V, Ext w10 V → Calls Try.prog 14 #[] V fun e w' => e = .returned (.bool true) ∧ Ext V w') := fun V _ => HTO.out V
          have CPN : Hid (∀ V, Ext w10 V → Calls Try.prog 52 #[.pointer (some ⟨w.heap.size, 0, none⟩), .slice none 0 0] V fun e w' => e = .returned (.int .i64 1) ∧ Ext V w') := fun V _ => (putD_nil V w.heap.size).mono fun e w' ⟨h1, h2⟩ => ⟨h1, h2 ▸ Ext.refl _⟩
          have HX10 := Lib.hid hx10
          have E9 : Hid (Ext w10 w10) := Ext.refl _
          have hq0 : (0 : Int) ≤ (q : Int) := by omega
          have hq1 : (q : Int) < (q : Int) + 1 := by omega
          have hqn : q ≤ 10 := by have := HN10.out; have := HQK.out.2; have := HLN.out; omega
          have hqw : IntKind.i64.wrap ((q : Int) + 1) = (q : Int) + 1 := IntWalk.i64_in _ (by omega)
          clear hs10 hx10 cl10 hsl10 CO9
          generalize str lm = slm at *
          go_wp2
          refine ext_begin (by kernel_rfl) ?_
          have E9d := Lib.hid (Ext.drewR E9.out)
          refine ext_call (i := 0) rfl (by kernel_rfl) (by rfl) (fun K' hK => ?_)
          go_simp
          (go_at_call 14; (with_reducible refine (CTO.out _ E9d.out).mono ?_); rintro e v1 ⟨rfl, hx⟩; refine hK _ _ hx ?_; clear hK)
          have Ev1 := Lib.hid (Ext.trans E9d.out hx)
          clear hx
          try simp only [Act.put, List.setIfInBounds_toArray, List.set_cons_zero, List.set_cons_succ]
          refine ext_take (i := 1) (v := ?_) rfl (by kernel_rfl) (by kernel_rfl) (by kernel_rfl) (fun _ _ _ h => h) (by rfl) ?_ ?_
          rotate_left
          · intro W hW; have hW0 := Ext.trans Ev1.out hW; clear hW; go_simp <;> with_reducible rfl
          try simp only [Act.put, List.setIfInBounds_toArray, List.set_cons_zero, List.set_cons_succ]
          refine ext_take (i := 2) (v := ?_) rfl (by kernel_rfl) (by kernel_rfl) (by kernel_rfl) (fun _ _ _ h => h) (by rfl) ?_ ?_
          rotate_left
          · intro W hW; have hW0 := Ext.trans Ev1.out hW; clear hW; go_simp <;> with_reducible rfl
          try simp only [Act.put, List.setIfInBounds_toArray, List.set_cons_zero, List.set_cons_succ]
          refine ext_take (i := 3) (v := ?_) rfl (by kernel_rfl) (by kernel_rfl) (by kernel_rfl) (fun _ _ _ h => h) (by rfl) ?_ ?_
          rotate_left
          · intro W hW; have hW0 := Ext.trans Ev1.out hW; clear hW; go_simp <;> with_reducible rfl
          try simp only [Act.put, List.setIfInBounds_toArray, List.set_cons_zero, List.set_cons_succ]
          refine ext_take (i := 4) (v := ?_) rfl (by kernel_rfl) (by kernel_rfl) (by kernel_rfl) (fun _ _ _ h => h) (by rfl) ?_ ?_
          rotate_left
          · intro W hW; have hW0 := Ext.trans Ev1.out hW; clear hW; go_simp <;> with_reducible rfl
          try simp only [Act.put, List.setIfInBounds_toArray, List.set_cons_zero, List.set_cons_succ]
          refine ext_take (i := 5) (v := ?_) rfl (by kernel_rfl) (by kernel_rfl) (by kernel_rfl) (fun _ _ _ h => h) (by rfl) ?_ ?_
          rotate_left
          · intro W hW; have hW0 := Ext.trans Ev1.out hW; clear hW; go_simp <;> with_reducible rfl
          try simp only [Act.put, List.setIfInBounds_toArray, List.set_cons_zero, List.set_cons_succ]
          refine ext_take (i := 6) (v := ?_) rfl (by kernel_rfl) (by kernel_rfl) (by kernel_rfl) (fun _ _ _ h => h) (by rfl) ?_ ?_
          rotate_left
          · intro W hW; have hW0 := Ext.trans Ev1.out hW; clear hW; go_simp <;> with_reducible rfl
          try simp only [Act.put, List.setIfInBounds_toArray, List.set_cons_zero, List.set_cons_succ]
          refine ext_take (i := 7) (v := .bool true) rfl (by kernel_rfl) (by kernel_rfl) (by kernel_rfl) (fun _ _ _ h => h) (by rfl) ?_ ?_
          · intro W hW; have hW0 := Ext.trans Ev1.out hW; clear hW; go_simp; all_goals (first | done | (simp; done) | omega)
          try simp only [Act.put, List.setIfInBounds_toArray, List.set_cons_zero, List.set_cons_succ]
          refine ext_take (i := 8) (v := ?_) rfl (by kernel_rfl) (by kernel_rfl) (by kernel_rfl) (fun _ _ _ h => h) (by rfl) ?_ ?_
          rotate_left
          · intro W hW; have hW0 := Ext.trans Ev1.out hW; clear hW; go_simp <;> with_reducible rfl
          try simp only [Act.put, List.setIfInBounds_toArray, List.set_cons_zero, List.set_cons_succ]
          refine ext_take (i := 9) (v := ?_) rfl (by kernel_rfl) (by kernel_rfl) (by kernel_rfl) (fun _ _ _ h => h) (by rfl) ?_ ?_
          rotate_left
          · intro W hW; have hW0 := Ext.trans Ev1.out hW; clear hW; go_simp <;> with_reducible rfl
          try simp only [Act.put, List.setIfInBounds_toArray, List.set_cons_zero, List.set_cons_succ]
          refine ext_take (i := 10) (v := ?_) rfl (by kernel_rfl) (by kernel_rfl) (by kernel_rfl) (fun _ _ _ h => h) (by rfl) ?_ ?_
          rotate_left
          · intro W hW; have hW0 := Ext.trans Ev1.out hW; clear hW; go_simp <;> with_reducible rfl
          try simp only [Act.put, List.setIfInBounds_toArray, List.set_cons_zero, List.set_cons_succ]
          refine ext_take (i := 11) (v := ?_) rfl (by kernel_rfl) (by kernel_rfl) (by kernel_rfl) (fun _ _ _ h => h) (by rfl) ?_ ?_
          rotate_left
          · intro W hW; have hW0 := Ext.trans Ev1.out hW; clear hW; go_simp <;> with_reducible rfl
          try simp only [Act.put, List.setIfInBounds_toArray, List.set_cons_zero, List.set_cons_succ]
          refine ext_take (i := 12) (v := ?_) rfl (by kernel_rfl) (by kernel_rfl) (by kernel_rfl) (fun _ _ _ h => h) (by rfl) ?_ ?_
          rotate_left
          · intro W hW; have hW0 := Ext.trans Ev1.out hW; clear hW; go_simp <;> with_reducible rfl
          try simp only [Act.put, List.setIfInBounds_toArray, List.set_cons_zero, List.set_cons_succ]
          refine ext_take (i := 13) (v := ?_) rfl (by kernel_rfl) (by kernel_rfl) (by kernel_rfl) (fun _ _ _ h => h) (by rfl) ?_ ?_
          rotate_left
          · intro W hW; have hW0 := Ext.trans Ev1.out hW; clear hW; go_simp <;> with_reducible rfl
          try simp only [Act.put, List.setIfInBounds_toArray, List.set_cons_zero, List.set_cons_succ]
          refine ext_take (i := 14) (v := ?_) rfl (by kernel_rfl) (by kernel_rfl) (by kernel_rfl) (fun _ _ _ h => h) (by rfl) ?_ ?_
          rotate_left
          · intro W hW; have hW0 := Ext.trans Ev1.out hW; clear hW; go_simp <;> with_reducible rfl
          try simp only [Act.put, List.setIfInBounds_toArray, List.set_cons_zero, List.set_cons_succ]
          refine ext_take (i := 15) (v := .string slm) rfl (by kernel_rfl) (by kernel_rfl) (by kernel_rfl) (fun _ _ _ h => h) (by rfl) ?_ ?_
          · intro W hW; have hW0 := Ext.trans Ev1.out hW; have hcw := hcv1 _ hW0; go_simp; first | done | exact hcw | (rw [hcw])
          try simp only [Act.put, List.setIfInBounds_toArray, List.set_cons_zero, List.set_cons_succ]
          refine ext_take (i := 16) (v := ?_) rfl (by kernel_rfl) (by kernel_rfl) (by kernel_rfl) (fun _ _ _ h => h) (by rfl) ?_ ?_
          rotate_left
          · intro W hW; have hW0 := Ext.trans Ev1.out hW; clear hW; go_simp <;> with_reducible rfl
          try simp only [Act.put, List.setIfInBounds_toArray, List.set_cons_zero, List.set_cons_succ]
          refine ext_take (i := 17) (v := .string slm) rfl (by kernel_rfl) (by kernel_rfl) (by kernel_rfl) (fun _ _ _ h => h) (by rfl) ?_ ?_
          · intro W hW; have hW0 := Ext.trans Ev1.out hW; have hcw := hcv2 _ hW0; go_simp; first | done | exact hcw | (rw [hcw])
          try simp only [Act.put, List.setIfInBounds_toArray, List.set_cons_zero, List.set_cons_succ]
          refine ext_take (i := 18) (v := .bool true) rfl (by kernel_rfl) (by kernel_rfl) (by kernel_rfl) (fun _ _ _ h => h) (by rfl) ?_ ?_
          · intro W hW; have hW0 := Ext.trans Ev1.out hW; clear hW; go_simp; all_goals (first | done | (simp; done) | omega)
          try simp only [Act.put, List.setIfInBounds_toArray, List.set_cons_zero, List.set_cons_succ]
          refine ext_take (i := 19) (v := ?_) rfl (by kernel_rfl) (by kernel_rfl) (by kernel_rfl) (fun _ _ _ h => h) (by rfl) ?_ ?_
          rotate_left
          · intro W hW; have hW0 := Ext.trans Ev1.out hW; clear hW; go_simp <;> with_reducible rfl
          try simp only [Act.put, List.setIfInBounds_toArray, List.set_cons_zero, List.set_cons_succ]
          refine ext_take (i := 20) (v := ?_) rfl (by kernel_rfl) (by kernel_rfl) (by kernel_rfl) (fun _ _ _ h => h) (by rfl) ?_ ?_
          rotate_left
          · intro W hW; have hW0 := Ext.trans Ev1.out hW; clear hW; go_simp <;> with_reducible rfl
          try simp only [Act.put, List.setIfInBounds_toArray, List.set_cons_zero, List.set_cons_succ]
          refine ext_take (i := 21) (v := ?_) rfl (by kernel_rfl) (by kernel_rfl) (by kernel_rfl) (fun _ _ _ h => h) (by rfl) ?_ ?_
          rotate_left
          · intro W hW; have hW0 := Ext.trans Ev1.out hW; clear hW; go_simp <;> with_reducible rfl
          try simp only [Act.put, List.setIfInBounds_toArray, List.set_cons_zero, List.set_cons_succ]
          refine ext_call (i := 22) rfl (by kernel_rfl) (by rfl) (fun K' hK => ?_)
          go_simp
          (go_at_call 52; (with_reducible refine (CPN.out _ Ev1.out).mono ?_); rintro e v2 ⟨rfl, hx⟩; refine hK _ _ hx ?_; clear hK)
          have Ev2 := Lib.hid (Ext.trans Ev1.out hx)
          clear hx
          try simp only [Act.put, List.setIfInBounds_toArray, List.set_cons_zero, List.set_cons_succ]
          refine ext_take (i := 23) (v := .bool true) rfl (by kernel_rfl) (by kernel_rfl) (by kernel_rfl) (fun _ _ _ h => h) (by rfl) ?_ ?_
          · intro W hW; have hW0 := Ext.trans Ev2.out hW; clear hW; go_simp; all_goals (first | done | (simp; done) | omega)
          try simp only [Act.put, List.setIfInBounds_toArray, List.set_cons_zero, List.set_cons_succ]
          refine ext_take (i := 24) (v := ?_) rfl (by kernel_rfl) (by kernel_rfl) (by kernel_rfl) (fun _ _ _ h => h) (by rfl) ?_ ?_
          rotate_left
          · intro W hW; have hW0 := Ext.trans Ev2.out hW; clear hW; go_simp <;> with_reducible rfl
          try simp only [Act.put, List.setIfInBounds_toArray, List.set_cons_zero, List.set_cons_succ]
          refine ext_take (i := 25) (v := ?_) rfl (by kernel_rfl) (by kernel_rfl) (by kernel_rfl) (fun _ _ _ h => h) (by rfl) ?_ ?_
          rotate_left
          · intro W hW; have hW0 := Ext.trans Ev2.out hW; clear hW; go_simp <;> with_reducible rfl
          try simp only [Act.put, List.setIfInBounds_toArray, List.set_cons_zero, List.set_cons_succ]
          refine wpAnyH_done (by kernel_rfl) ?_ _
          clear fz hcv1 hcv2
          go_wp2
          try go_ret
          exact hD.out _ _ ⟨rfl, Ext.trans HX10.out Ev2.out⟩

set_option maxRecDepth 100000 in
theorem law_walOpens {H : Type} {enc : TypeId × Value → H} (W : World) (base : Nat) (args : Array Value) (ds : List (DataW H)) (p : List MemPlace)
    (hval : ∀ (j : Nat) t v, Try.f13.params[j]? = some t → args[j]? = some v → Value.okWide Try.prog W .any base t v)
    (hA : DataW.TrodAll enc Try.prog W 0 (fun _ => true) true Try.f13.params.toList args.toList ds p) :
    Calls Try.prog 13 args W fun e W' => e = .returned (.bool true) ∧ Below W.heap.size W W' := by
  rw [Try.params13] at hA hval
  obtain ⟨v0, vs0, d0, ds0, p0, q0, hargs, rfl, rfl, h0, r0⟩ := trodAll_cons hA
  obtain ⟨v1, vs1, d1, ds1, p1, q1, rfl, rfl, rfl, h1, r1⟩ := trodAll_cons r0
  obtain ⟨v2, vs2, d2, ds2, p2, q2, rfl, rfl, rfl, h2, r2⟩ := trodAll_cons r1
  obtain ⟨v3, vs3, d3, ds3, p3, q3, rfl, rfl, rfl, h3, r3⟩ := trodAll_cons r2
  obtain ⟨rfl, rfl, rfl⟩ := trodAll_nil r3
  obtain rfl : args = #[v0, v1, v2, v3] := by cases args; simp_all
  obtain ⟨A0, n0, c0, rfl⟩ := okWide_slice Try.underlying27 (hval 0 27 v0 rfl rfl)
  obtain ⟨fuel0, hf0⟩ := h0
  obtain ⟨B0, l0, e0, hcs0, x0, y0, z0⟩ := open_recs hf0
  simp only [Value.cells, List.cons.injEq, Value.slice.injEq, and_true] at hcs0
  obtain ⟨rfl, rfl, rfl⟩ := hcs0
  obtain ⟨a1, rfl, rfl, rfl, w1⟩ := open_int Try.underlying3 (hval 1 3 v1 rfl rfl) h1
  obtain ⟨a2, rfl, rfl, rfl, w2⟩ := open_int Try.underlying3 (hval 2 3 v2 rfl rfl) h2
  obtain ⟨A3, n3, c3, rfl⟩ := okWide_slice Try.underlying22 (hval 3 22 v3 rfl rfl)
  obtain ⟨fuel3, hf3⟩ := h3
  obtain ⟨B3, e3, l3, hcs3, x3, y3, z3⟩ := trod_bytes_sl Try.underlying22 Try.underlying5 cells_byte hf3
  simp only [Value.cells, List.cons.injEq, Value.slice.injEq, and_true] at hcs3
  obtain ⟨rfl, rfl, rfl⟩ := hcs3
  exact walk_walOpens A0 l0 c0 a1 a2 A3 c3 l3 W x0 y0 z0 (Nat.le_trans x3 y3) z3

end Go.Proofs.Ytgcclkdlomifcaa
