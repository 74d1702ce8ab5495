/-
  The walk of the law PackBack.
-/
import Derived.Test.YtfpelhjiaabglaaBackLaw
import Derived.Test.YtfpelhjiaabglaaTurn
namespace Go.Proofs.Ytfpelhjiaabglaa
set_option linter.unusedVariables false
set_option linter.unusedSimpArgs false
open Go.RowKit Go.ChangeShapes Go.WideShapes

theorem opB_len (o : Op1) (h : o.s.size ≤ 100) : (opB o).length ≤ 110 := by
  have hz : o.s.data.toList.length = o.s.size := by rw [Array.length_toList]; rfl
  unfold opB
  split
  · exact Nat.le_trans (numF_len 10 _) (by omega)
  · split
    · unfold textB
      rw [List.length_append]
      have := numF_len 10 o.s.size
      unfold numB
      omega
    · rw [yesB_num]; exact Nat.le_trans (numF_len 10 _) (by omega)
theorem bytesOf_len : ∀ (l : List Op1), (∀ o ∈ l, o.s.size ≤ 100) → (bytesOf l).length ≤ 110 * l.length
  | [], _ => by simp [bytesOf]
  | o :: r, h => by
    have h1 := opB_len o (h o (List.mem_cons_self ..))
    have h2 := bytesOf_len r (fun x hx => h x (List.mem_cons_of_mem _ hx))
    rw [bytesOf, List.length_append, List.length_cons]
    omega

set_option maxRecDepth 8000 in
set_option maxHeartbeats 32000000 in
theorem walk_packBack (A : Option Addr) (l : List Op1) (cap : Nat) (at_ : Int) (w : World) (hn : l.length ≤ 9223372036854775807) (hs : So1 w A l) :
    Calls Try.prog 5 #[.slice A l.length cap, .int .i64 at_] w fun e w' => e = .returned (.bool true) ∧ Below w.heap.size w w' := by
  refine hide_post fun DP hD => ?_
  have HTO : Hid (∀ V, Calls Try.prog 15 #[] V fun e w' => e = .returned (.bool true) ∧ Ext V w') := told1
  have HS := Lib.hid hs
  obtain ⟨n, hln⟩ : ∃ n, n = l.length := ⟨_, rfl⟩
  rw [← hln] at hn ⊢
  have HLN := Lib.hid hln
  clear hs hln
  by_cases hn0 : n = 0
  · subst hn0
    go_enter Try.func5, Try.ntmps5
    go_wp2_with (go_at_call 15; (with_reducible refine (HTO.out _).mono ?_); rintro e w1 ⟨rfl, hx⟩; have HX := Lib.hid hx; clear hx)
    try go_ret
    exact hD.out _ _ ⟨rfl, HX.out⟩
  have hni : ¬ (n : Int) = 0 := by omega
  by_cases h20 : (20 : Int) < (n : Int)
  · go_enter Try.func5, Try.ntmps5
    go_wp2_with (go_at_call 15; (with_reducible refine (HTO.out _).mono ?_); rintro e w1 ⟨rfl, hx⟩; have HX := Lib.hid hx; clear hx)
    try go_ret
    exact hD.out _ _ ⟨rfl, HX.out⟩
  have hn20 : n ≤ 20 := by omega
  obtain ⟨W0, hW0⟩ : ∃ W0, W0 = w.alloc (.cells #[.slice none 0 0] 26) := ⟨_, rfl⟩
  have x0 : Ext w W0 := by rw [hW0]; exact Ext.alloc _ _
  have H0 : WrAt W0 w.heap.size w.heap.size [] none := by rw [hW0]; exact ⟨.slice none 0 0, Blk.new _ _ _, World.ownsRow_nil _ _ _ _, rfl⟩
  have HX0 := Lib.hid (And.intro H0 x0)
  have HW0 := Lib.hid hW0
  clear x0 H0 hW0
  go_enter Try.func5, Try.ntmps5
  go_wp2
  rw [← HW0.out]
  go_loopw [6] (fun i wr => ∃ (j : Nat) (g : Option Nat), j ≤ n ∧ i = .int .i64 j ∧ Hid (∀ x ∈ l.take j, x.s.size ≤ 100) ∧ Hid (WrAt wr w.heap.size w.heap.size (bytesOf (l.take j)) g ∧ Below w.heap.size w wr)) (fun i _ => n - (intOf i).toNat)
  case atStart => exact ⟨0, none, by omega, rfl, (fun x hx => by simp at hx), HX0.out⟩
  case round =>
    obtain ⟨j, g, hj, rfl, HSZ, HW⟩ := hrel
    have HBW := Lib.hid HW.out.2
    have HG := Lib.hid HW.out.1.glt
    by_cases hlt : j < n
    · obtain ⟨x, hx⟩ : ∃ x, l[j]? = some x := ⟨_, List.getElem?_eq_getElem (by rw [← HLN.out]; exact hlt)⟩
      obtain ⟨b, o, rfl, q0, q1, q2, q3, q4, hok⟩ := HS.out j x hx
      have HC0 : Hid (∀ V, Below w.heap.size w V → V.cell? ⟨b, o + j * 5, none⟩ = some (.int .i64 x.kind)) := fun V h => cell_stay h q0
      have HC1 : Hid (∀ V, Below w.heap.size w V → V.cell? ⟨b, o + j * 5 + 1, none⟩ = some (.int .u64 x.n)) := fun V h => cell_stay h q1
      have HC2 : Hid (∀ V, Below w.heap.size w V → V.cell? ⟨b, o + j * 5 + 2, none⟩ = some (.string x.s)) := fun V h => cell_stay h q2
      have HC3 : Hid (∀ V, Below w.heap.size w V → V.cell? ⟨b, o + j * 5 + 3, none⟩ = some (.bool x.yes)) := fun V h => cell_stay h q3
      have HOK := Lib.hid hok
      clear q0 q1 q2 q3 q4 hok
      have htk : l.take (j + 1) = l.take j ++ [x] := by rw [List.take_add_one, hx]; rfl
      have HTK := Lib.hid htk
      have c0 := HC0.out wr HBW.out
      have c1 := HC1.out wr HBW.out
      have c2 := HC2.out wr HBW.out
      have c3 := HC3.out wr HBW.out
      obtain ⟨D1, hD1⟩ : ∃ D1, D1 = bytesOf (l.take j) := ⟨_, rfl⟩
      have HD := Lib.hid hD1
      have HKC := HW.out.1
      rw [← hD1] at HKC
      have HKC := Lib.hid HKC
      have HDL : Hid (D1.length ≤ 2200) := by
        show _ ≤ _
        have := bytesOf_len (l.take j) HSZ.out
        rw [← hD1] at this
        have h2 : (l.take j).length ≤ j := List.length_take_le _ _
        omega
      clear hx HX0 htk hD1 HW
      obtain ⟨xk, xn, xs, xy, xm⟩ := x
      simp only at c0 c1 c2 c3
      by_cases hs3 : (100 : Int) < (xs.size : Int)
      · go_wp2_with (go_at_call 15; (with_reducible refine (HTO.out _).mono ?_); rintro e w1 ⟨rfl, hx⟩; have HX := Lib.hid hx; clear hx)
        try go_ret
        exact hD.out _ _ ⟨rfl, Below.step HBW.out HX.out⟩
      have hs100 : xs.size ≤ 100 := by omega
      have HSZ2 : Hid (∀ x ∈ l.take (j + 1), x.s.size ≤ 100) := fun y hy => by
        rw [HTK.out] at hy
        rcases List.mem_append.1 hy with h1 | h1
        · exact HSZ.out y h1
        · simp at h1; subst h1; exact hs100
      have HN64 : Hid (xn < 18446744073709551616) := HOK.out.1
      clear HOK
      by_cases hk0 : xk = 0
      · subst hk0
        have C1 : Hid (Calls Try.prog 16 #[.pointer (some ⟨w.heap.size, 0, none⟩), .int .u64 xn] wr fun e w' => e = .returned (.tuple #[]) ∧ WrTo wr w' w.heap.size w.heap.size (D1 ++ numB xn) g) := numW_any w.heap.size w.heap.size D1 g xn wr HKC.out HN64.out (by have := HDL.out; omega) HBW.out.size
        have HT2 : Hid (bytesOf (l.take (j + 1)) = D1 ++ numB xn) := by (show _ = _); rw [HTK.out, bytesOf_append, ← HD.out]; congr 1; rw [bytesOf, bytesOf, List.append_nil]; unfold opB; rfl
        clear HKC HTK
        go_wp2_with (go_at_call 16; (with_reducible refine C1.out.mono ?_); rintro e w1 ⟨rfl, hw⟩; have hx := hw.low (B := w.heap.size) (Nat.le_refl _) (fun k hk => (HG.out k hk).1) HBW.out.size; have HW1 := Lib.hid hw; have B1 : Hid (Below w.heap.size w w1) := Below.trans HBW.out hx; clear hw hx)
        obtain ⟨g2, k1, k2, k3⟩ := HW1.out
        rw [← HT2.out] at k1
        have HW2 := Lib.hid (And.intro k1 B1.out)
        clear c0 c1 c2 c3 k1 k2 k3 C1
        go_roundw
        case rel => exact ⟨j + 1, g2, by omega, by go_num, HSZ2.out, HW2.out⟩
        case measure => simp [intOf]; omega
      by_cases hk1 : xk = 1
      · subst hk1
        have C1 : Hid (Calls Try.prog 18 #[.pointer (some ⟨w.heap.size, 0, none⟩), .string xs] wr fun e w' => e = .returned (.tuple #[]) ∧ WrTo wr w' w.heap.size w.heap.size (D1 ++ textB xs) g) := textW_any w.heap.size w.heap.size D1 g xs wr HKC.out (by omega) (by have := HDL.out; omega) HBW.out.size
        have HT2 : Hid (bytesOf (l.take (j + 1)) = D1 ++ textB xs) := by (show _ = _); rw [HTK.out, bytesOf_append, ← HD.out]; congr 1; rw [bytesOf, bytesOf, List.append_nil]; unfold opB; rfl
        clear HKC HTK
        go_wp2_with (go_at_call 18; (with_reducible refine C1.out.mono ?_); rintro e w1 ⟨rfl, hw⟩; have hx := hw.low (B := w.heap.size) (Nat.le_refl _) (fun k hk => (HG.out k hk).1) HBW.out.size; have HW1 := Lib.hid hw; have B1 : Hid (Below w.heap.size w w1) := Below.trans HBW.out hx; clear hw hx)
        obtain ⟨g2, k1, k2, k3⟩ := HW1.out
        rw [← HT2.out] at k1
        have HW2 := Lib.hid (And.intro k1 B1.out)
        clear c0 c1 c2 c3 k1 k2 k3 C1
        go_roundw
        case rel => exact ⟨j + 1, g2, by omega, by go_num, HSZ2.out, HW2.out⟩
        case measure => simp [intOf]; omega
      · have hk0' := hk0
        have C1 : Hid (Calls Try.prog 20 #[.pointer (some ⟨w.heap.size, 0, none⟩), .bool xy] wr fun e w' => e = .returned (.tuple #[]) ∧ WrTo wr w' w.heap.size w.heap.size (D1 ++ yesB xy) g) := yesW_any w.heap.size w.heap.size D1 g xy wr HKC.out (by have := HDL.out; omega) HBW.out.size
        have HT2 : Hid (bytesOf (l.take (j + 1)) = D1 ++ yesB xy) := by (show _ = _); rw [HTK.out, bytesOf_append, ← HD.out]; congr 1; rw [bytesOf, bytesOf, List.append_nil]; unfold opB; (first | rfl | (rw [if_neg hk0, if_neg hk1]))
        clear HKC HTK
        go_wp2_with (go_at_call 20; (with_reducible refine C1.out.mono ?_); rintro e w1 ⟨rfl, hw⟩; have hx := hw.low (B := w.heap.size) (Nat.le_refl _) (fun k hk => (HG.out k hk).1) HBW.out.size; have HW1 := Lib.hid hw; have B1 : Hid (Below w.heap.size w w1) := Below.trans HBW.out hx; clear hw hx)
        obtain ⟨g2, k1, k2, k3⟩ := HW1.out
        rw [← HT2.out] at k1
        have HW2 := Lib.hid (And.intro k1 B1.out)
        clear c0 c1 c2 c3 k1 k2 k3 C1
        go_roundw
        case rel => exact ⟨j + 1, g2, by omega, by go_num, HSZ2.out, HW2.out⟩
        case measure => simp [intOf]; omega
    · obtain rfl : n = j := by omega
      have hlt2 : l.take n = l := List.take_of_length_le (by rw [← HLN.out]; exact Nat.le_refl _)
      have hW := HW.out.1
      have hsz := HSZ.out
      rw [hlt2] at hW hsz
      have HALL := Lib.hid hsz
      obtain ⟨D, hDD⟩ : ∃ D, D = bytesOf l := ⟨_, rfl⟩
      rw [← hDD] at hW
      have HDD := Lib.hid hDD
      have HDL : Hid (D.length ≤ 2200) := by
        show _ ≤ _
        have := bytesOf_len l hsz
        rw [← hDD] at this
        have h2 := HLN.out
        omega
      have hD0 : 0 < D.length := by
        rw [hDD]
        have h2 := HLN.out
        cases hl : l with
        | nil => rw [hl] at h2; simp at h2; omega
        | cons x r =>
          rw [bytesOf, List.length_append]
          have := List.length_pos_iff.2 (opB_ne x)
          omega
      have CB : Hid (Calls Try.prog 22 #[.pointer (some ⟨w.heap.size, 0, none⟩)] wr fun e w' => ∃ A cap, e = .returned (.slice A D.length cap) ∧ w'.ownsRow wr.heap.size 5 1 (.slice A D.length cap) D.length (D.map Go.Proofs.Ytfpelhjiaabglaa.u8) ∧ Ext wr w') := bytes_any w.heap.size w.heap.size D g wr hW (by have := HDL.out; omega)
      have HKC := HX0
      clear HX0 HW hW hsz HSZ hlt2 hDD HKC HG hlt
      go_wp2_with fail
      go_at_call 22
      with_reducible refine CB.out.mono ?_
      rintro e w1 ⟨A1, cap1, rfl, ho, hx⟩
      obtain ⟨gb, c2, cur, e, hgb, KB, hck, hc2⟩ := own_at (k := 0) ho hD0
      injection e with e1 e2 e3
      subst e1 e3
      have S1 : Hid (Sl Go.Proofs.Ytfpelhjiaabglaa.u8 w1 (some ⟨gb, 0, none⟩) D) := by
        obtain ⟨A', c', e, hs⟩ := own_view ho
        injection e with e1 e2 e3
        subst e1
        exact hs
      have HBA : Hid (Below w.heap.size w w1) := Below.step HBW.out hx
      clear ho hx KB hck hgb CB HBW cur e2
      have hDi : ¬ (D.length : Int) = 0 := by omega
      have hDn : ¬ D.length = 0 := by omega
      have hdl9 := HDL.out
      have hDl : ¬ D = [] := fun e => by subst e; exact hDn rfl
      obtain ⟨cut, hcut, hcm⟩ : ∃ k : Nat, k < D.length ∧ (IntKind.u64.wrap at_).tmod (D.length : Int) = (k : Int) := by
        have hw : 0 ≤ IntKind.u64.wrap at_ := by
          rw [show IntKind.u64.wrap at_ = at_ % 18446744073709551616 by simp [IntKind.wrap, IntKind.bits, IntKind.signed]]; omega
        have e := Int.tmod_eq_emod_of_nonneg (b := (D.length : Int)) hw
        have e2 := Int.emod_nonneg (IntKind.u64.wrap at_) hDi
        have e3 := Int.emod_lt_of_pos (IntKind.u64.wrap at_) (show (0 : Int) < (D.length : Int) by omega)
        exact ⟨((IntKind.u64.wrap at_).tmod (D.length : Int)).toNat, by omega, by omega⟩
      have HFS : Hid (fin (l.drop 0) (D.take cut) false = true ∧ (D.take cut).length ≤ 2200) := ⟨fin_cut l (D.take cut) (D.drop cut) (fun x hx => by
          obtain ⟨i, hi, e⟩ := List.getElem_of_mem hx
          obtain ⟨_, _, _, _, _, _, _, _, hok⟩ := HS.out i x (by rw [List.getElem?_eq_getElem hi, e])
          exact ⟨hok.1, HALL.out x hx⟩) (by
            intro h
            have := congrArg List.length h
            simp at this
            omega) (by rw [List.take_append_drop, HDD.out]), by have := HDL.out; simp; omega⟩
      have CN : Hid (∀ V, Ext w1 V → Calls Try.prog 23 #[.slice (some ⟨gb, 0, none⟩) D.length cap1] V fun e w' => ∃ P, e = .returned (.pointer (some ⟨P, 0, none⟩)) ∧ RdAt w' P D false ∧ Ext V w' ∧ V.heap.size ≤ P) := fun V h => new_any _ cap1 D V (S1.out.stay h) (by have := HDL.out; omega)
      have CC : Hid (∀ V, Ext w1 V → Calls Try.prog 23 #[.slice (some ⟨gb, 0, none⟩) cut cap1] V fun e w' => ∃ P, e = .returned (.pointer (some ⟨P, 0, none⟩)) ∧ RdAt w' P (D.take cut) false ∧ Ext V w' ∧ V.heap.size ≤ P) := fun V h => by
        have := new_any (some ⟨gb, 0, none⟩) cap1 (D.take cut) V ((S1.out.stay h).take' cut) (by have := HDL.out; simp; omega)
        rwa [List.length_take, Nat.min_eq_left (by omega)] at this
      have hcc : cut ≤ cap1 := by omega
      have hcc2 : (cut : Int) ≤ (cap1 : Int) := by omega
      have hcc3 : (cut : Int) ≤ (D.length : Int) := by omega
      go_wp2
      clear hcm
      have hbe : ((D.length : Int) == 0) = false := by rw [beq_eq_false_iff_ne]; exact hDi
      have hbf : (D.length == 0) = false := by rw [beq_eq_false_iff_ne]; exact hDn
      have hbg : D.isEmpty = false := by rw [List.isEmpty_eq_false_iff]; exact hDl
      first | (simp only [hbe, hbf, hbg, decide_eq_false hDi, decide_eq_false hDn, decide_eq_false hDl]) | trace_state
      go_loopw [9] (fun i wr => ∃ (k : Nat), k ≤ 2 ∧ i = .int .i64 k ∧ Hid (Below w1.heap.size w1 wr)) (fun i _ => 2 - (intOf i).toNat)
      case atStart => exact ⟨0, by omega, rfl, Below.refl _ _⟩
      case round =>
        obtain ⟨k, hk, rfl, HE⟩ := hrel
        have hE : Ext w1 wr := HE.out
        obtain rfl | rfl | rfl : k = 0 ∨ k = 1 ∨ k = 2 := by omega
        · go_wp2_with ((go_at_call 23; (with_reducible refine (CN.out _ hE).mono ?_); rintro e w3 ⟨P3, rfl, hr, hx, hP⟩; have X3 : Hid (Ext wr w3) := hx; have R3 := Lib.hid hr; have HP3 : Hid (wr.heap.size ≤ P3) := hP; clear hr hx hP))
          have HPw1 : Hid (w1.heap.size ≤ P3) := Nat.le_trans HE.out.size HP3.out
          have HPw : Hid (w.heap.size ≤ P3) := Nat.le_trans HBA.out.size HPw1.out
          have HST : Hid (RdAt w3 P3 (bytesOf (l.drop 0)) false ∧ Below w1.heap.size w1 w3) := ⟨by rw [List.drop_zero, ← HDD.out]; exact R3.out, Below.trans HE.out (Below.mono X3.out HE.out.size)⟩
          clear R3 X3 HP3 hE
          generalize P3 = P at *
          go_loopw [11] (fun i wr => ∃ (j : Nat), j ≤ n ∧ i = .int .i64 j ∧ Hid (RdAt wr P (bytesOf (l.drop j)) false ∧ Below w1.heap.size w1 wr)) (fun i _ => n - (intOf i).toNat)
          case atStart => exact ⟨0, by omega, rfl, HST.out⟩
          case round =>
            obtain ⟨j, hj, rfl, HQ⟩ := hrel
            have HB1 := Lib.hid HQ.out.2
            have HBQ : Hid (Below w.heap.size w wr) := Below.step HBA.out HQ.out.2
            by_cases hlt : j < n
            · obtain ⟨x, hx⟩ : ∃ x, l[j]? = some x := ⟨_, List.getElem?_eq_getElem (by rw [← HLN.out]; exact hlt)⟩
              obtain ⟨b, o, rfl, q0, q1, q2, q3, q4, hok⟩ := HS.out j x hx
              have HC0 : Hid (∀ V, Below w.heap.size w V → V.cell? ⟨b, o + j * 5, none⟩ = some (.int .i64 x.kind)) := fun V h => cell_stay h q0
              have HC1 : Hid (∀ V, Below w.heap.size w V → V.cell? ⟨b, o + j * 5 + 1, none⟩ = some (.int .u64 x.n)) := fun V h => cell_stay h q1
              have HC2 : Hid (∀ V, Below w.heap.size w V → V.cell? ⟨b, o + j * 5 + 2, none⟩ = some (.string x.s)) := fun V h => cell_stay h q2
              have HC3 : Hid (∀ V, Below w.heap.size w V → V.cell? ⟨b, o + j * 5 + 3, none⟩ = some (.bool x.yes)) := fun V h => cell_stay h q3
              have HOK := Lib.hid hok
              clear q0 q1 q2 q3 q4 hok
              have hdr : l.drop j = x :: l.drop (j + 1) := by
                obtain ⟨h1, h2⟩ := List.getElem?_eq_some_iff.1 hx
                rw [List.drop_eq_getElem_cons h1, h2]
              have HX100 : Hid (x.s.size ≤ 100) := HALL.out x (List.mem_of_getElem? hx)
              have HN64 : Hid (x.n < 18446744073709551616) := HOK.out.1
              obtain ⟨R1, hR1⟩ : ∃ R1, R1 = bytesOf (l.drop (j + 1)) := ⟨_, rfl⟩
              have hrd := HQ.out.1
              rw [hdr, bytesOf, ← hR1] at hrd
              have hlen : (opB x ++ R1).length ≤ 2200 := by
                have h1 := bytesOf_len (l.drop j) (fun y hy => HALL.out y (List.mem_of_mem_drop hy))
                rw [hdr, bytesOf, ← hR1] at h1
                have h2 : (x :: l.drop (j + 1)).length ≤ l.length := by rw [← hdr]; simp
                have := HLN.out
                omega
              have c0 := HC0.out wr HBQ.out
              clear HQ hx hdr HOK
              obtain ⟨xk, xn, xs, xy, xm⟩ := x
              simp only at c0
              by_cases hk0 : xk = 0
              · subst hk0
                have HRD : Hid (RdAt wr P (numB xn ++ R1) false) := by
                  show RdAt _ _ _ _
                  unfold opB at hrd
                  simpa [] using hrd
                have HLR : Hid ((numB xn ++ R1).length ≤ 2200) := by
                  show _ ≤ _
                  unfold opB at hlen
                  simpa [] using hlen
                clear hrd hlen
                have CR : Hid (Calls Try.prog 24 #[.pointer (some ⟨P, 0, none⟩), .int .u64 18446744073709551615] wr.drew fun e w' => e = .returned (.int .u64 xn) ∧ RdAt w' P R1 false ∧ Frm (fun k => k = P) wr.drew w') := by
                  have := numR_any P (numB xn ++ R1) false 18446744073709551615 wr.drew (HRD.out.stay (Ext.drewR (Ext.refl _))) (by have := HLR.out; omega)
                  rw [rdNum_whole xn _ R1 HN64.out (by have h64 : xn < 18446744073709551616 := HN64.out; omega)] at this
                  exact this
                have fz : ∀ V, Frm (fun k => k = P) wr V → V.cell? ⟨b, o + j * 5 + 1, none⟩ = some (.int .u64 xn) := fun V h => HC1.out V (Below.trans HBQ.out (h.below HBQ.out.size (fun k hk => by have := HPw.out; omega)))
                have EQ : Hid (Frm (fun k => k = P) wr wr) := Frm.refl _ _
                clear HRD
                go_wp2
                clear c0
                refine rx_begin (fun k => k = P) (by kernel_rfl) ?_
                have EQd := Lib.hid (Frm.drew EQ.out)
                refine rx_take (i := 0) (v := ?_) rfl (by kernel_rfl) (by kernel_rfl) (by kernel_rfl) (fun _ _ _ h => h) (by rfl) ?_ ?_
                rotate_left
                · intro W hW; have hW0 := Frm.tr EQd.out hW; clear hW; go_simp <;> with_reducible rfl
                try simp only [Act.put, List.setIfInBounds_toArray, List.set_cons_zero, List.set_cons_succ]
                refine rx_take (i := 2) (v := ?_) rfl (by kernel_rfl) (by kernel_rfl) (by kernel_rfl) (fun _ _ _ h => h) (by rfl) ?_ ?_
                rotate_left
                · intro W hW; have hW0 := Frm.tr EQd.out hW; clear hW; go_simp <;> with_reducible rfl
                try simp only [Act.put, List.setIfInBounds_toArray, List.set_cons_zero, List.set_cons_succ]
                refine rx_take (i := 3) (v := ?_) rfl (by kernel_rfl) (by kernel_rfl) (by kernel_rfl) (fun _ _ _ h => h) (by rfl) ?_ ?_
                rotate_left
                · intro W hW; have hW0 := Frm.tr EQd.out hW; clear hW; go_simp <;> with_reducible rfl
                try simp only [Act.put, List.setIfInBounds_toArray, List.set_cons_zero, List.set_cons_succ]
                refine rx_take (i := 4) (v := ?_) rfl (by kernel_rfl) (by kernel_rfl) (by kernel_rfl) (fun _ _ _ h => h) (by rfl) ?_ ?_
                rotate_left
                · intro W hW; have hW0 := Frm.tr EQd.out hW; clear hW; go_simp <;> with_reducible rfl
                try simp only [Act.put, List.setIfInBounds_toArray, List.set_cons_zero, List.set_cons_succ]
                refine rx_take (i := 5) (v := ?_) rfl (by kernel_rfl) (by kernel_rfl) (by kernel_rfl) (fun _ _ _ h => h) (by rfl) ?_ ?_
                rotate_left
                · intro W hW; have hW0 := Frm.tr EQd.out hW; clear hW; go_simp <;> with_reducible rfl
                try simp only [Act.put, List.setIfInBounds_toArray, List.set_cons_zero, List.set_cons_succ]
                refine rx_take (i := 6) (v := ?_) rfl (by kernel_rfl) (by kernel_rfl) (by kernel_rfl) (fun _ _ _ h => h) (by rfl) ?_ ?_
                rotate_left
                · intro W hW; have hW0 := Frm.tr EQd.out hW; clear hW; go_simp <;> with_reducible rfl
                try simp only [Act.put, List.setIfInBounds_toArray, List.set_cons_zero, List.set_cons_succ]
                refine rx_call (i := 1) rfl (by kernel_rfl) (by rfl) (fun K' hK => ?_)
                go_simp
                (go_at_call 24; (with_reducible refine (CR.out).mono ?_); rintro e w5 ⟨rfl, hr, hx⟩; refine hK _ _ hx ?_; clear hK)
                have Ew5 := Lib.hid (Frm.tr EQd.out hx)
                have HR5 := Lib.hid hr; clear hr
                clear hx
                try simp only [Act.put, List.setIfInBounds_toArray, List.set_cons_zero, List.set_cons_succ]
                refine rx_take (i := 7) (v := .bool true) rfl (by kernel_rfl) (by kernel_rfl) (by kernel_rfl) (fun _ _ _ h => h) (by rfl) ?_ ?_
                · intro W hW; have hW0 := Frm.tr Ew5.out hW; clear hW; go_simp; all_goals (first | (simp; done) | (cases xy <;> rfl) | omega)
                try simp only [Act.put, List.setIfInBounds_toArray, List.set_cons_zero, List.set_cons_succ]
                refine rx_take (i := 8) (v := ?_) rfl (by kernel_rfl) (by kernel_rfl) (by kernel_rfl) (fun _ _ _ h => h) (by rfl) ?_ ?_
                rotate_left
                · intro W hW; have hW0 := Frm.tr Ew5.out hW; clear hW; go_simp <;> with_reducible rfl
                try simp only [Act.put, List.setIfInBounds_toArray, List.set_cons_zero, List.set_cons_succ]
                refine wpAnyH_done (by kernel_rfl) ?_ _
                have B5 : Hid (Below w1.heap.size w1 w5) := Below.trans HB1.out (Ew5.out.below HB1.out.size (fun k hk => by have := HPw1.out; omega))
                clear EQd fz CR
                go_wp2
                go_roundw
                case rel => exact ⟨j + 1, by omega, by go_num, hR1 ▸ HR5.out, B5.out⟩
                case measure => simp [intOf]; omega
              by_cases hk1 : xk = 1
              · subst hk1
                have HRD : Hid (RdAt wr P (textB xs ++ R1) false) := by
                  show RdAt _ _ _ _
                  unfold opB at hrd
                  simpa [] using hrd
                have HLR : Hid ((textB xs ++ R1).length ≤ 2200) := by
                  show _ ≤ _
                  unfold opB at hlen
                  simpa [] using hlen
                clear hrd hlen
                have CR : Hid (Calls Try.prog 26 #[.pointer (some ⟨P, 0, none⟩), .int .i64 100] wr.drew fun e w' => e = .returned (.string xs) ∧ RdAt w' P R1 false ∧ Frm (fun k => k = P) wr.drew w') := by
                  have := textR_any P (textB xs ++ R1) false 100 100 wr.drew (.inl rfl) (HRD.out.stay (Ext.drewR (Ext.refl _))) (by have := HLR.out; omega) (by decide)
                  rw [rdText_whole xs R1 HX100.out] at this
                  exact this
                have fz : ∀ V, Frm (fun k => k = P) wr V → V.cell? ⟨b, o + j * 5 + 2, none⟩ = some (.string xs) := fun V h => HC2.out V (Below.trans HBQ.out (h.below HBQ.out.size (fun k hk => by have := HPw.out; omega)))
                have EQ : Hid (Frm (fun k => k = P) wr wr) := Frm.refl _ _
                clear HRD
                go_wp2
                clear c0
                refine rx_begin (fun k => k = P) (by kernel_rfl) ?_
                have EQd := Lib.hid (Frm.drew EQ.out)
                refine rx_take (i := 0) (v := ?_) rfl (by kernel_rfl) (by kernel_rfl) (by kernel_rfl) (fun _ _ _ h => h) (by rfl) ?_ ?_
                rotate_left
                · intro W hW; have hW0 := Frm.tr EQd.out hW; clear hW; go_simp <;> with_reducible rfl
                try simp only [Act.put, List.setIfInBounds_toArray, List.set_cons_zero, List.set_cons_succ]
                refine rx_take (i := 2) (v := ?_) rfl (by kernel_rfl) (by kernel_rfl) (by kernel_rfl) (fun _ _ _ h => h) (by rfl) ?_ ?_
                rotate_left
                · intro W hW; have hW0 := Frm.tr EQd.out hW; clear hW; go_simp <;> with_reducible rfl
                try simp only [Act.put, List.setIfInBounds_toArray, List.set_cons_zero, List.set_cons_succ]
                refine rx_take (i := 3) (v := ?_) rfl (by kernel_rfl) (by kernel_rfl) (by kernel_rfl) (fun _ _ _ h => h) (by rfl) ?_ ?_
                rotate_left
                · intro W hW; have hW0 := Frm.tr EQd.out hW; clear hW; go_simp <;> with_reducible rfl
                try simp only [Act.put, List.setIfInBounds_toArray, List.set_cons_zero, List.set_cons_succ]
                refine rx_take (i := 4) (v := ?_) rfl (by kernel_rfl) (by kernel_rfl) (by kernel_rfl) (fun _ _ _ h => h) (by rfl) ?_ ?_
                rotate_left
                · intro W hW; have hW0 := Frm.tr EQd.out hW; clear hW; go_simp <;> with_reducible rfl
                try simp only [Act.put, List.setIfInBounds_toArray, List.set_cons_zero, List.set_cons_succ]
                refine rx_take (i := 5) (v := ?_) rfl (by kernel_rfl) (by kernel_rfl) (by kernel_rfl) (fun _ _ _ h => h) (by rfl) ?_ ?_
                rotate_left
                · intro W hW; have hW0 := Frm.tr EQd.out hW; clear hW; go_simp <;> with_reducible rfl
                try simp only [Act.put, List.setIfInBounds_toArray, List.set_cons_zero, List.set_cons_succ]
                refine rx_take (i := 6) (v := ?_) rfl (by kernel_rfl) (by kernel_rfl) (by kernel_rfl) (fun _ _ _ h => h) (by rfl) ?_ ?_
                rotate_left
                · intro W hW; have hW0 := Frm.tr EQd.out hW; clear hW; go_simp <;> with_reducible rfl
                try simp only [Act.put, List.setIfInBounds_toArray, List.set_cons_zero, List.set_cons_succ]
                refine rx_call (i := 1) rfl (by kernel_rfl) (by rfl) (fun K' hK => ?_)
                go_simp
                (go_at_call 26; (with_reducible refine (CR.out).mono ?_); rintro e w5 ⟨rfl, hr, hx⟩; refine hK _ _ hx ?_; clear hK)
                have Ew5 := Lib.hid (Frm.tr EQd.out hx)
                have HR5 := Lib.hid hr; clear hr
                clear hx
                try simp only [Act.put, List.setIfInBounds_toArray, List.set_cons_zero, List.set_cons_succ]
                refine rx_take (i := 7) (v := .bool true) rfl (by kernel_rfl) (by kernel_rfl) (by kernel_rfl) (fun _ _ _ h => h) (by rfl) ?_ ?_
                · intro W hW; have hW0 := Frm.tr Ew5.out hW; clear hW; go_simp; all_goals (first | (simp; done) | (cases xy <;> rfl) | omega)
                try simp only [Act.put, List.setIfInBounds_toArray, List.set_cons_zero, List.set_cons_succ]
                refine rx_take (i := 8) (v := ?_) rfl (by kernel_rfl) (by kernel_rfl) (by kernel_rfl) (fun _ _ _ h => h) (by rfl) ?_ ?_
                rotate_left
                · intro W hW; have hW0 := Frm.tr Ew5.out hW; clear hW; go_simp <;> with_reducible rfl
                try simp only [Act.put, List.setIfInBounds_toArray, List.set_cons_zero, List.set_cons_succ]
                refine wpAnyH_done (by kernel_rfl) ?_ _
                have B5 : Hid (Below w1.heap.size w1 w5) := Below.trans HB1.out (Ew5.out.below HB1.out.size (fun k hk => by have := HPw1.out; omega))
                clear EQd fz CR
                go_wp2
                go_roundw
                case rel => exact ⟨j + 1, by omega, by go_num, hR1 ▸ HR5.out, B5.out⟩
                case measure => simp [intOf]; omega
              have HRD : Hid (RdAt wr P (yesB xy ++ R1) false) := by
                show RdAt _ _ _ _
                unfold opB at hrd
                simpa [hk0, hk1] using hrd
              have HLR : Hid ((yesB xy ++ R1).length ≤ 2200) := by
                show _ ≤ _
                unfold opB at hlen
                simpa [hk0, hk1] using hlen
              clear hrd hlen
              have CR : Hid (Calls Try.prog 28 #[.pointer (some ⟨P, 0, none⟩)] wr.drew fun e w' => e = .returned (.bool xy) ∧ RdAt w' P R1 false ∧ Frm (fun k => k = P) wr.drew w') := by
                have := yesR_any P (yesB xy ++ R1) false wr.drew (HRD.out.stay (Ext.drewR (Ext.refl _))) (by have := HLR.out; omega)
                rw [yesB_num, rdNum_whole _ 1 R1 (by split <;> omega) (by split <;> omega)] at this
                have e : decide ((if xy = true then 1 else 0) = 1) = xy := by cases xy <;> rfl
                simp only [e] at this
                exact this
              have fz : ∀ V, Frm (fun k => k = P) wr V → V.cell? ⟨b, o + j * 5 + 3, none⟩ = some (.bool xy) := fun V h => HC3.out V (Below.trans HBQ.out (h.below HBQ.out.size (fun k hk => by have := HPw.out; omega)))
              have EQ : Hid (Frm (fun k => k = P) wr wr) := Frm.refl _ _
              clear HRD
              go_wp2
              clear c0
              refine rx_begin (fun k => k = P) (by kernel_rfl) ?_
              have EQd := Lib.hid (Frm.drew EQ.out)
              refine rx_take (i := 0) (v := ?_) rfl (by kernel_rfl) (by kernel_rfl) (by kernel_rfl) (fun _ _ _ h => h) (by rfl) ?_ ?_
              rotate_left
              · intro W hW; have hW0 := Frm.tr EQd.out hW; clear hW; go_simp <;> with_reducible rfl
              try simp only [Act.put, List.setIfInBounds_toArray, List.set_cons_zero, List.set_cons_succ]
              refine rx_take (i := 2) (v := ?_) rfl (by kernel_rfl) (by kernel_rfl) (by kernel_rfl) (fun _ _ _ h => h) (by rfl) ?_ ?_
              rotate_left
              · intro W hW; have hW0 := Frm.tr EQd.out hW; clear hW; go_simp <;> with_reducible rfl
              try simp only [Act.put, List.setIfInBounds_toArray, List.set_cons_zero, List.set_cons_succ]
              refine rx_take (i := 3) (v := ?_) rfl (by kernel_rfl) (by kernel_rfl) (by kernel_rfl) (fun _ _ _ h => h) (by rfl) ?_ ?_
              rotate_left
              · intro W hW; have hW0 := Frm.tr EQd.out hW; clear hW; go_simp <;> with_reducible rfl
              try simp only [Act.put, List.setIfInBounds_toArray, List.set_cons_zero, List.set_cons_succ]
              refine rx_take (i := 4) (v := ?_) rfl (by kernel_rfl) (by kernel_rfl) (by kernel_rfl) (fun _ _ _ h => h) (by rfl) ?_ ?_
              rotate_left
              · intro W hW; have hW0 := Frm.tr EQd.out hW; clear hW; go_simp <;> with_reducible rfl
              try simp only [Act.put, List.setIfInBounds_toArray, List.set_cons_zero, List.set_cons_succ]
              refine rx_take (i := 5) (v := ?_) rfl (by kernel_rfl) (by kernel_rfl) (by kernel_rfl) (fun _ _ _ h => h) (by rfl) ?_ ?_
              rotate_left
              · intro W hW; have hW0 := Frm.tr EQd.out hW; clear hW; go_simp <;> with_reducible rfl
              try simp only [Act.put, List.setIfInBounds_toArray, List.set_cons_zero, List.set_cons_succ]
              refine rx_take (i := 6) (v := ?_) rfl (by kernel_rfl) (by kernel_rfl) (by kernel_rfl) (fun _ _ _ h => h) (by rfl) ?_ ?_
              rotate_left
              · intro W hW; have hW0 := Frm.tr EQd.out hW; clear hW; go_simp <;> with_reducible rfl
              try simp only [Act.put, List.setIfInBounds_toArray, List.set_cons_zero, List.set_cons_succ]
              refine rx_call (i := 1) rfl (by kernel_rfl) (by rfl) (fun K' hK => ?_)
              go_simp
              (go_at_call 28; (with_reducible refine (CR.out).mono ?_); rintro e w5 ⟨rfl, hr, hx⟩; refine hK _ _ hx ?_; clear hK)
              have Ew5 := Lib.hid (Frm.tr EQd.out hx)
              have HR5 := Lib.hid hr; clear hr
              clear hx
              try simp only [Act.put, List.setIfInBounds_toArray, List.set_cons_zero, List.set_cons_succ]
              refine rx_take (i := 7) (v := .bool true) rfl (by kernel_rfl) (by kernel_rfl) (by kernel_rfl) (fun _ _ _ h => h) (by rfl) ?_ ?_
              · intro W hW; have hW0 := Frm.tr Ew5.out hW; clear hW; go_simp; all_goals (first | (simp; done) | (cases xy <;> rfl) | omega)
              try simp only [Act.put, List.setIfInBounds_toArray, List.set_cons_zero, List.set_cons_succ]
              refine rx_take (i := 8) (v := ?_) rfl (by kernel_rfl) (by kernel_rfl) (by kernel_rfl) (fun _ _ _ h => h) (by rfl) ?_ ?_
              rotate_left
              · intro W hW; have hW0 := Frm.tr Ew5.out hW; clear hW; go_simp <;> with_reducible rfl
              try simp only [Act.put, List.setIfInBounds_toArray, List.set_cons_zero, List.set_cons_succ]
              refine wpAnyH_done (by kernel_rfl) ?_ _
              have B5 : Hid (Below w1.heap.size w1 w5) := Below.trans HB1.out (Ew5.out.below HB1.out.size (fun k hk => by have := HPw1.out; omega))
              clear EQd fz CR
              go_wp2
              go_roundw
              case rel => exact ⟨j + 1, by omega, by go_num, hR1 ▸ HR5.out, B5.out⟩
              case measure => simp [intOf]; omega
            · obtain rfl : n = j := by omega
              have hr0 := HQ.out.1
              rw [List.drop_of_length_le (by have := HLN.out; omega), bytesOf] at hr0
              have CE : Hid (Calls Try.prog 30 #[.pointer (some ⟨P, 0, none⟩)] wr fun e w' => e = .returned (.int .i64 0) ∧ wr = w') := endR_any P [] false wr hr0 (by simp)
              clear hr0
              go_wp2_with (go_at_call 30; (with_reducible refine CE.out.mono ?_); rintro e w6 ⟨rfl, rfl⟩)
              go_roundw
              case rel => exact ⟨1, by omega, by go_num, HB1.out⟩
              case measure => simp [intOf]
        · go_wp2_with (first
            | (go_at_call 23; (with_reducible refine (CN.out _ hE).mono ?_); rintro e w3 ⟨P3, rfl, hr, hx, hP⟩; have X3 : Hid (Ext wr w3) := hx; have R3 := Lib.hid hr; have HP3 : Hid (wr.heap.size ≤ P3) := hP; clear hr hx hP)
            | (go_at_call 23; (with_reducible refine (CC.out _ (Ext.trans hE X3.out)).mono ?_); rintro e w4 ⟨P4, rfl, hr, hx, hP⟩; have X4 : Hid (Ext w3 w4) := hx; have R4 := Lib.hid hr; have HP4 : Hid (w3.heap.size ≤ P4) := hP; clear hr hx hP))
          have X4' : Hid (Below w1.heap.size w1 w4) := Below.step (Below.step HE.out X3.out) X4.out
          have HPw1 : Hid (w1.heap.size ≤ P4) := Nat.le_trans (Nat.le_trans HE.out.size X3.out.size) HP4.out
          have HPw : Hid (w.heap.size ≤ P4) := Nat.le_trans HBA.out.size HPw1.out
          have HST : Hid (RdAt w4 P4 (D.take cut) false ∧ Below w1.heap.size w1 w4) := ⟨R4.out, X4'.out⟩
          clear R4 X4 HP4 R3 X3 HP3 hE X4'
          generalize P4 = P at *
          go_loopw [11] (fun i wr => ∃ (j : Nat) (r : List UInt8) (bad : Bool), j ≤ n ∧ i = .int .i64 j ∧ Hid (fin (l.drop j) r bad = true ∧ r.length ≤ 2200) ∧ Hid (RdAt wr P r bad ∧ Below w1.heap.size w1 wr)) (fun i _ => n - (intOf i).toNat)
          case atStart => exact ⟨0, D.take cut, false, by omega, rfl, HFS.out, HST.out⟩
          case round =>
            obtain ⟨j, r, bad, hj, rfl, HF, HQ⟩ := hrel
            have HB1 := Lib.hid HQ.out.2
            have HBQ : Hid (Below w.heap.size w wr) := Below.step HBA.out HQ.out.2
            by_cases hlt : j < n
            · obtain ⟨x, hx⟩ : ∃ x, l[j]? = some x := ⟨_, List.getElem?_eq_getElem (by rw [← HLN.out]; exact hlt)⟩
              obtain ⟨b, o, rfl, q0, q1, q2, q3, q4, hok⟩ := HS.out j x hx
              have HC0 : Hid (∀ V, Below w.heap.size w V → V.cell? ⟨b, o + j * 5, none⟩ = some (.int .i64 x.kind)) := fun V h => cell_stay h q0
              have HC1 : Hid (∀ V, Below w.heap.size w V → V.cell? ⟨b, o + j * 5 + 1, none⟩ = some (.int .u64 x.n)) := fun V h => cell_stay h q1
              have HC2 : Hid (∀ V, Below w.heap.size w V → V.cell? ⟨b, o + j * 5 + 2, none⟩ = some (.string x.s)) := fun V h => cell_stay h q2
              have HC3 : Hid (∀ V, Below w.heap.size w V → V.cell? ⟨b, o + j * 5 + 3, none⟩ = some (.bool x.yes)) := fun V h => cell_stay h q3
              have HOK := Lib.hid hok
              clear q0 q1 q2 q3 q4 hok
              have hdr : l.drop j = x :: l.drop (j + 1) := by
                obtain ⟨h1, h2⟩ := List.getElem?_eq_some_iff.1 hx
                rw [List.drop_eq_getElem_cons h1, h2]
              have HX100 : Hid (x.s.size ≤ 100) := HALL.out x (List.mem_of_getElem? hx)
              have HN64 : Hid (x.n < 18446744073709551616) := HOK.out.1
              have hfn := HF.out.1
              rw [hdr, fin] at hfn
              have HLR : Hid (r.length ≤ 2200) := HF.out.2
              have HRD := Lib.hid HQ.out.1
              have c0 := HC0.out wr HBQ.out
              clear HQ hx hdr HOK HF
              obtain ⟨xk, xn, xs, xy, xm⟩ := x
              simp only at c0
              by_cases hk0 : xk = 0
              · subst hk0
                have HFN := Lib.hid hfn
                clear hfn
                have CR : Hid (Calls Try.prog 24 #[.pointer (some ⟨P, 0, none⟩), .int .u64 18446744073709551615] wr.drew fun e w' => e = .returned (.int .u64 (rdNum r bad 18446744073709551615).1) ∧ RdAt w' P (rdNum r bad 18446744073709551615).2.1 (rdNum r bad 18446744073709551615).2.2 ∧ Frm (fun k => k = P) wr.drew w') := numR_any P r bad 18446744073709551615 wr.drew (HRD.out.stay (Ext.drewR (Ext.refl _))) (by have := HLR.out; omega)
                have HF2 : Hid (fin (l.drop (j + 1)) (rdNum r bad 18446744073709551615).2.1 (rdNum r bad 18446744073709551615).2.2 = true ∧ (rdNum r bad 18446744073709551615).2.1.length ≤ 2200) := ⟨by
                  have := HFN.out
                  unfold rdOp at this
                  simpa using this, Nat.le_trans ((rdNum_len _ _ _).1) HLR.out⟩
                generalize rdNum r bad 18446744073709551615 = y at *
                obtain ⟨y1, y2, y3⟩ := y
                simp only at CR HF2
                have fz : ∀ V, Frm (fun k => k = P) wr V → V.cell? ⟨b, o + j * 5 + 1, none⟩ = some (.int .u64 xn) := fun V h => HC1.out V (Below.trans HBQ.out (h.below HBQ.out.size (fun k hk => by have := HPw.out; omega)))
                have EQ : Hid (Frm (fun k => k = P) wr wr) := Frm.refl _ _
                clear HRD HFN
                go_wp2
                clear c0
                refine rx_begin (fun k => k = P) (by kernel_rfl) ?_
                have EQd := Lib.hid (Frm.drew EQ.out)
                refine rx_take (i := 0) (v := ?_) rfl (by kernel_rfl) (by kernel_rfl) (by kernel_rfl) (fun _ _ _ h => h) (by rfl) ?_ ?_
                rotate_left
                · intro W hW; have hW0 := Frm.tr EQd.out hW; clear hW; go_simp <;> with_reducible rfl
                try simp only [Act.put, List.setIfInBounds_toArray, List.set_cons_zero, List.set_cons_succ]
                refine rx_take (i := 2) (v := ?_) rfl (by kernel_rfl) (by kernel_rfl) (by kernel_rfl) (fun _ _ _ h => h) (by rfl) ?_ ?_
                rotate_left
                · intro W hW; have hW0 := Frm.tr EQd.out hW; clear hW; go_simp <;> with_reducible rfl
                try simp only [Act.put, List.setIfInBounds_toArray, List.set_cons_zero, List.set_cons_succ]
                refine rx_take (i := 3) (v := ?_) rfl (by kernel_rfl) (by kernel_rfl) (by kernel_rfl) (fun _ _ _ h => h) (by rfl) ?_ ?_
                rotate_left
                · intro W hW; have hW0 := Frm.tr EQd.out hW; clear hW; go_simp <;> with_reducible rfl
                try simp only [Act.put, List.setIfInBounds_toArray, List.set_cons_zero, List.set_cons_succ]
                refine rx_take (i := 4) (v := ?_) rfl (by kernel_rfl) (by kernel_rfl) (by kernel_rfl) (fun _ _ _ h => h) (by rfl) ?_ ?_
                rotate_left
                · intro W hW; have hW0 := Frm.tr EQd.out hW; clear hW; go_simp <;> with_reducible rfl
                try simp only [Act.put, List.setIfInBounds_toArray, List.set_cons_zero, List.set_cons_succ]
                refine rx_take (i := 5) (v := ?_) rfl (by kernel_rfl) (by kernel_rfl) (by kernel_rfl) (fun _ _ _ h => h) (by rfl) ?_ ?_
                rotate_left
                · intro W hW; have hW0 := Frm.tr EQd.out hW; clear hW; go_simp <;> with_reducible rfl
                try simp only [Act.put, List.setIfInBounds_toArray, List.set_cons_zero, List.set_cons_succ]
                refine rx_take (i := 6) (v := ?_) rfl (by kernel_rfl) (by kernel_rfl) (by kernel_rfl) (fun _ _ _ h => h) (by rfl) ?_ ?_
                rotate_left
                · intro W hW; have hW0 := Frm.tr EQd.out hW; clear hW; go_simp <;> with_reducible rfl
                try simp only [Act.put, List.setIfInBounds_toArray, List.set_cons_zero, List.set_cons_succ]
                refine rx_call (i := 1) rfl (by kernel_rfl) (by rfl) (fun K' hK => ?_)
                go_simp
                (go_at_call 24; (with_reducible refine (CR.out).mono ?_); rintro e w5 ⟨rfl, hr, hx⟩; refine hK _ _ hx ?_; clear hK)
                have Ew5 := Lib.hid (Frm.tr EQd.out hx)
                have HR5 := Lib.hid hr; clear hr
                clear hx
                try simp only [Act.put, List.setIfInBounds_toArray, List.set_cons_zero, List.set_cons_succ]
                refine rx_take (i := 7) (v := ?_) rfl (by kernel_rfl) (by kernel_rfl) (by kernel_rfl) (fun _ _ _ h => h) (by rfl) ?_ ?_
                rotate_left
                · intro W hW; have hW0 := Frm.tr Ew5.out hW; clear hW; go_simp <;> with_reducible rfl
                try simp only [Act.put, List.setIfInBounds_toArray, List.set_cons_zero, List.set_cons_succ]
                refine rx_take (i := 8) (v := ?_) rfl (by kernel_rfl) (by kernel_rfl) (by kernel_rfl) (fun _ _ _ h => h) (by rfl) ?_ ?_
                rotate_left
                · intro W hW; have hW0 := Frm.tr Ew5.out hW; clear hW; go_simp <;> with_reducible rfl
                try simp only [Act.put, List.setIfInBounds_toArray, List.set_cons_zero, List.set_cons_succ]
                refine wpAnyH_done (by kernel_rfl) ?_ _
                have B5 : Hid (Below w1.heap.size w1 w5) := Below.trans HB1.out (Ew5.out.below HB1.out.size (fun k hk => by have := HPw1.out; omega))
                clear EQd fz CR
                go_wp2
                go_roundw
                case rel => exact ⟨j + 1, y2, y3, by omega, by go_num, HF2.out, HR5.out, B5.out⟩
                case measure => simp [intOf]; omega
              by_cases hk1 : xk = 1
              · subst hk1
                have HFN := Lib.hid hfn
                clear hfn
                have CR : Hid (Calls Try.prog 26 #[.pointer (some ⟨P, 0, none⟩), .int .i64 100] wr.drew fun e w' => e = .returned (.string (str (rdText r bad 100).1)) ∧ RdAt w' P (rdText r bad 100).2.1 (rdText r bad 100).2.2 ∧ Frm (fun k => k = P) wr.drew w') := textR_any P r bad 100 100 wr.drew (.inl rfl) (HRD.out.stay (Ext.drewR (Ext.refl _))) (by have := HLR.out; omega) (by decide)
                have HF2 : Hid (fin (l.drop (j + 1)) (rdText r bad 100).2.1 (rdText r bad 100).2.2 = true ∧ (rdText r bad 100).2.1.length ≤ 2200) := ⟨by
                  have := HFN.out
                  unfold rdOp at this
                  simpa using this, Nat.le_trans (rdText_len _ _ _) HLR.out⟩
                generalize rdText r bad 100 = y at *
                obtain ⟨y1, y2, y3⟩ := y
                simp only at CR HF2
                generalize str y1 = y0 at *
                have fz : ∀ V, Frm (fun k => k = P) wr V → V.cell? ⟨b, o + j * 5 + 2, none⟩ = some (.string xs) := fun V h => HC2.out V (Below.trans HBQ.out (h.below HBQ.out.size (fun k hk => by have := HPw.out; omega)))
                have EQ : Hid (Frm (fun k => k = P) wr wr) := Frm.refl _ _
                clear HRD HFN
                go_wp2
                clear c0
                refine rx_begin (fun k => k = P) (by kernel_rfl) ?_
                have EQd := Lib.hid (Frm.drew EQ.out)
                refine rx_take (i := 0) (v := ?_) rfl (by kernel_rfl) (by kernel_rfl) (by kernel_rfl) (fun _ _ _ h => h) (by rfl) ?_ ?_
                rotate_left
                · intro W hW; have hW0 := Frm.tr EQd.out hW; clear hW; go_simp <;> with_reducible rfl
                try simp only [Act.put, List.setIfInBounds_toArray, List.set_cons_zero, List.set_cons_succ]
                refine rx_take (i := 2) (v := ?_) rfl (by kernel_rfl) (by kernel_rfl) (by kernel_rfl) (fun _ _ _ h => h) (by rfl) ?_ ?_
                rotate_left
                · intro W hW; have hW0 := Frm.tr EQd.out hW; clear hW; go_simp <;> with_reducible rfl
                try simp only [Act.put, List.setIfInBounds_toArray, List.set_cons_zero, List.set_cons_succ]
                refine rx_take (i := 3) (v := ?_) rfl (by kernel_rfl) (by kernel_rfl) (by kernel_rfl) (fun _ _ _ h => h) (by rfl) ?_ ?_
                rotate_left
                · intro W hW; have hW0 := Frm.tr EQd.out hW; clear hW; go_simp <;> with_reducible rfl
                try simp only [Act.put, List.setIfInBounds_toArray, List.set_cons_zero, List.set_cons_succ]
                refine rx_take (i := 4) (v := ?_) rfl (by kernel_rfl) (by kernel_rfl) (by kernel_rfl) (fun _ _ _ h => h) (by rfl) ?_ ?_
                rotate_left
                · intro W hW; have hW0 := Frm.tr EQd.out hW; clear hW; go_simp <;> with_reducible rfl
                try simp only [Act.put, List.setIfInBounds_toArray, List.set_cons_zero, List.set_cons_succ]
                refine rx_take (i := 5) (v := ?_) rfl (by kernel_rfl) (by kernel_rfl) (by kernel_rfl) (fun _ _ _ h => h) (by rfl) ?_ ?_
                rotate_left
                · intro W hW; have hW0 := Frm.tr EQd.out hW; clear hW; go_simp <;> with_reducible rfl
                try simp only [Act.put, List.setIfInBounds_toArray, List.set_cons_zero, List.set_cons_succ]
                refine rx_take (i := 6) (v := ?_) rfl (by kernel_rfl) (by kernel_rfl) (by kernel_rfl) (fun _ _ _ h => h) (by rfl) ?_ ?_
                rotate_left
                · intro W hW; have hW0 := Frm.tr EQd.out hW; clear hW; go_simp <;> with_reducible rfl
                try simp only [Act.put, List.setIfInBounds_toArray, List.set_cons_zero, List.set_cons_succ]
                refine rx_call (i := 1) rfl (by kernel_rfl) (by rfl) (fun K' hK => ?_)
                go_simp
                (go_at_call 26; (with_reducible refine (CR.out).mono ?_); rintro e w5 ⟨rfl, hr, hx⟩; refine hK _ _ hx ?_; clear hK)
                have Ew5 := Lib.hid (Frm.tr EQd.out hx)
                have HR5 := Lib.hid hr; clear hr
                clear hx
                try simp only [Act.put, List.setIfInBounds_toArray, List.set_cons_zero, List.set_cons_succ]
                refine rx_take (i := 7) (v := ?_) rfl (by kernel_rfl) (by kernel_rfl) (by kernel_rfl) (fun _ _ _ h => h) (by rfl) ?_ ?_
                rotate_left
                · intro W hW; have hW0 := Frm.tr Ew5.out hW; clear hW; go_simp <;> with_reducible rfl
                try simp only [Act.put, List.setIfInBounds_toArray, List.set_cons_zero, List.set_cons_succ]
                refine rx_take (i := 8) (v := ?_) rfl (by kernel_rfl) (by kernel_rfl) (by kernel_rfl) (fun _ _ _ h => h) (by rfl) ?_ ?_
                rotate_left
                · intro W hW; have hW0 := Frm.tr Ew5.out hW; clear hW; go_simp <;> with_reducible rfl
                try simp only [Act.put, List.setIfInBounds_toArray, List.set_cons_zero, List.set_cons_succ]
                refine wpAnyH_done (by kernel_rfl) ?_ _
                have B5 : Hid (Below w1.heap.size w1 w5) := Below.trans HB1.out (Ew5.out.below HB1.out.size (fun k hk => by have := HPw1.out; omega))
                clear EQd fz CR
                go_wp2
                go_roundw
                case rel => exact ⟨j + 1, y2, y3, by omega, by go_num, HF2.out, HR5.out, B5.out⟩
                case measure => simp [intOf]; omega
              have HFN := Lib.hid hfn
              clear hfn
              have CR : Hid (Calls Try.prog 28 #[.pointer (some ⟨P, 0, none⟩)] wr.drew fun e w' => e = .returned (.bool (decide ((rdNum r bad 1).1 = 1))) ∧ RdAt w' P (rdNum r bad 1).2.1 (rdNum r bad 1).2.2 ∧ Frm (fun k => k = P) wr.drew w') := yesR_any P r bad wr.drew (HRD.out.stay (Ext.drewR (Ext.refl _))) (by have := HLR.out; omega)
              have HF2 : Hid (fin (l.drop (j + 1)) (rdNum r bad 1).2.1 (rdNum r bad 1).2.2 = true ∧ (rdNum r bad 1).2.1.length ≤ 2200) := ⟨by
                have := HFN.out
                unfold rdOp at this
                simpa [hk0, hk1] using this, Nat.le_trans ((rdNum_len _ _ _).1) HLR.out⟩
              generalize rdNum r bad 1 = y at *
              obtain ⟨y1, y2, y3⟩ := y
              simp only at CR HF2
              generalize decide (y1 = 1) = y0 at *
              have fz : ∀ V, Frm (fun k => k = P) wr V → V.cell? ⟨b, o + j * 5 + 3, none⟩ = some (.bool xy) := fun V h => HC3.out V (Below.trans HBQ.out (h.below HBQ.out.size (fun k hk => by have := HPw.out; omega)))
              have EQ : Hid (Frm (fun k => k = P) wr wr) := Frm.refl _ _
              clear HRD HFN
              go_wp2
              clear c0
              refine rx_begin (fun k => k = P) (by kernel_rfl) ?_
              have EQd := Lib.hid (Frm.drew EQ.out)
              refine rx_take (i := 0) (v := ?_) rfl (by kernel_rfl) (by kernel_rfl) (by kernel_rfl) (fun _ _ _ h => h) (by rfl) ?_ ?_
              rotate_left
              · intro W hW; have hW0 := Frm.tr EQd.out hW; clear hW; go_simp <;> with_reducible rfl
              try simp only [Act.put, List.setIfInBounds_toArray, List.set_cons_zero, List.set_cons_succ]
              refine rx_take (i := 2) (v := ?_) rfl (by kernel_rfl) (by kernel_rfl) (by kernel_rfl) (fun _ _ _ h => h) (by rfl) ?_ ?_
              rotate_left
              · intro W hW; have hW0 := Frm.tr EQd.out hW; clear hW; go_simp <;> with_reducible rfl
              try simp only [Act.put, List.setIfInBounds_toArray, List.set_cons_zero, List.set_cons_succ]
              refine rx_take (i := 3) (v := ?_) rfl (by kernel_rfl) (by kernel_rfl) (by kernel_rfl) (fun _ _ _ h => h) (by rfl) ?_ ?_
              rotate_left
              · intro W hW; have hW0 := Frm.tr EQd.out hW; clear hW; go_simp <;> with_reducible rfl
              try simp only [Act.put, List.setIfInBounds_toArray, List.set_cons_zero, List.set_cons_succ]
              refine rx_take (i := 4) (v := ?_) rfl (by kernel_rfl) (by kernel_rfl) (by kernel_rfl) (fun _ _ _ h => h) (by rfl) ?_ ?_
              rotate_left
              · intro W hW; have hW0 := Frm.tr EQd.out hW; clear hW; go_simp <;> with_reducible rfl
              try simp only [Act.put, List.setIfInBounds_toArray, List.set_cons_zero, List.set_cons_succ]
              refine rx_take (i := 5) (v := ?_) rfl (by kernel_rfl) (by kernel_rfl) (by kernel_rfl) (fun _ _ _ h => h) (by rfl) ?_ ?_
              rotate_left
              · intro W hW; have hW0 := Frm.tr EQd.out hW; clear hW; go_simp <;> with_reducible rfl
              try simp only [Act.put, List.setIfInBounds_toArray, List.set_cons_zero, List.set_cons_succ]
              refine rx_take (i := 6) (v := ?_) rfl (by kernel_rfl) (by kernel_rfl) (by kernel_rfl) (fun _ _ _ h => h) (by rfl) ?_ ?_
              rotate_left
              · intro W hW; have hW0 := Frm.tr EQd.out hW; clear hW; go_simp <;> with_reducible rfl
              try simp only [Act.put, List.setIfInBounds_toArray, List.set_cons_zero, List.set_cons_succ]
              refine rx_call (i := 1) rfl (by kernel_rfl) (by rfl) (fun K' hK => ?_)
              go_simp
              (go_at_call 28; (with_reducible refine (CR.out).mono ?_); rintro e w5 ⟨rfl, hr, hx⟩; refine hK _ _ hx ?_; clear hK)
              have Ew5 := Lib.hid (Frm.tr EQd.out hx)
              have HR5 := Lib.hid hr; clear hr
              clear hx
              try simp only [Act.put, List.setIfInBounds_toArray, List.set_cons_zero, List.set_cons_succ]
              refine rx_take (i := 7) (v := ?_) rfl (by kernel_rfl) (by kernel_rfl) (by kernel_rfl) (fun _ _ _ h => h) (by rfl) ?_ ?_
              rotate_left
              · intro W hW; have hW0 := Frm.tr Ew5.out hW; clear hW; go_simp <;> with_reducible rfl
              try simp only [Act.put, List.setIfInBounds_toArray, List.set_cons_zero, List.set_cons_succ]
              refine rx_take (i := 8) (v := ?_) rfl (by kernel_rfl) (by kernel_rfl) (by kernel_rfl) (fun _ _ _ h => h) (by rfl) ?_ ?_
              rotate_left
              · intro W hW; have hW0 := Frm.tr Ew5.out hW; clear hW; go_simp <;> with_reducible rfl
              try simp only [Act.put, List.setIfInBounds_toArray, List.set_cons_zero, List.set_cons_succ]
              refine wpAnyH_done (by kernel_rfl) ?_ _
              have B5 : Hid (Below w1.heap.size w1 w5) := Below.trans HB1.out (Ew5.out.below HB1.out.size (fun k hk => by have := HPw1.out; omega))
              clear EQd fz CR
              go_wp2
              go_roundw
              case rel => exact ⟨j + 1, y2, y3, by omega, by go_num, HF2.out, HR5.out, B5.out⟩
              case measure => simp [intOf]; omega
            · obtain rfl : n = j := by omega
              have hb : bad = true := by
                have := HF.out.1
                rwa [List.drop_of_length_le (by have := HLN.out; omega), fin] at this
              subst hb
              have CE : Hid (Calls Try.prog 30 #[.pointer (some ⟨P, 0, none⟩)] wr fun e w' => e = .returned (.int .i64 2) ∧ wr = w') := endR_any P r true wr HQ.out.1 (by have := HF.out.2; omega)
              go_wp2_with (go_at_call 30; (with_reducible refine CE.out.mono ?_); rintro e w6 ⟨rfl, rfl⟩)
              go_roundw
              case rel => exact ⟨2, by omega, by go_num, HB1.out⟩
              case measure => simp [intOf]
        · go_wp2_with (go_at_call 15; (with_reducible refine (HTO.out _).mono ?_); rintro e w9 ⟨rfl, hx⟩; have HX := Lib.hid hx; clear hx)
          try go_ret
          exact hD.out _ _ ⟨rfl, Below.step HBA.out (Below.step HE.out HX.out)⟩
set_option maxRecDepth 100000 in
theorem law_packBack {H : Type} {enc : TypeId × Value → H} (W : World) (base : Nat) (args : Array Value) (ds : List (DataW H)) (p : List MemPlace)
    (hval : ∀ (j : Nat) t v, Try.f5.params[j]? = some t → args[j]? = some v → Value.okWide Try.prog W .any base t v)
    (hA : DataW.TrodAll enc Try.prog W 0 (fun _ => true) true Try.f5.params.toList args.toList ds p) :
    Calls Try.prog 5 args W fun e W' => e = .returned (.bool true) ∧ Below W.heap.size W W' := by
  rw [Try.params5] at hA hval
  obtain ⟨v0, vs0, d0, ds0, p0, q0, hargs, rfl, rfl, h0, r0⟩ := trodAll_cons hA
  obtain ⟨v1, vs1, d1, ds1, p1, q1, rfl, rfl, rfl, h1, r1⟩ := trodAll_cons r0
  obtain ⟨rfl, rfl, rfl⟩ := trodAll_nil r1
  obtain rfl : args = #[v0, v1] := by cases args; simp_all
  obtain ⟨A0, n0, c0, rfl⟩ := okWide_slice Try.underlying22 (hval 0 22 v0 rfl rfl)
  obtain ⟨fuel0, hf0⟩ := h0
  obtain ⟨B0, l0, e0, hcs0, x0, y0⟩ := open_ops1 hf0
  simp only [Value.cells, List.cons.injEq, Value.slice.injEq, and_true] at hcs0
  obtain ⟨rfl, rfl, rfl⟩ := hcs0
  obtain ⟨a1, rfl, rfl, rfl, w1⟩ := open_int Try.underlying3 (hval 1 3 v1 rfl rfl) h1
  exact walk_packBack A0 l0 c0 a1 W x0 y0

end Go.Proofs.Ytfpelhjiaabglaa
