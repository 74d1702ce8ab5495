/-
  The walk of the law PackWrites.
-/
import Derived.Test.YtfpelhjiaabglaaRefNum
import Derived.Test.YtfpelhjiaabglaaOpenOps1
import Derived.Test.YtfpelhjiaabglaaTurn
import Derived.Laws.Concat
namespace Go.Proofs.Ytfpelhjiaabglaa
set_option linter.unusedVariables false
set_option linter.unusedSimpArgs false
open Go.RowKit Go.ChangeShapes Go.WideShapes

theorem str_append (a b : List UInt8) : str (a ++ b) = str a ++ str b := by
  apply ByteArray.ext
  rw [ByteArray.data_append]
  simp [str]
theorem below_stay {w w1 : World} {c : Addr} {v : Value} (h : w.cell? c = some v) (hb : Below w.heap.size w w1) : w1.cell? c = some v := cell_stay hb h

set_option maxRecDepth 8000 in
set_option maxHeartbeats 16000000 in
theorem walk_packWrites (A : Option Addr) (l : List Op1) (cap : Nat) (w : World) (hn : l.length ≤ 9223372036854775807) (hs : So1 w A l) :
    Calls Try.prog 3 #[.slice A l.length cap] w fun e w' => e = .returned (.bool true) ∧ Below w.heap.size w w' := by
  refine hide_post fun D hD => ?_
  have HTO : Hid (∀ V, Calls Try.prog 15 #[] V fun e w' => e = .returned (.bool true) ∧ Ext V w') := told1
  have HS := Lib.hid hs
  obtain ⟨n, hln⟩ : ∃ n, n = l.length := ⟨_, rfl⟩
  rw [← hln] at hn ⊢
  have HLN := Lib.hid hln
  clear hs hln
  by_cases h40 : (40 : Int) < (n : Int)
  · go_enter Try.func3, Try.ntmps3
    go_wp2_with (go_at_call 15; (with_reducible refine (HTO.out _).mono ?_); rintro e w1 ⟨rfl, hx⟩; have HX := Lib.hid hx; clear hx)
    try go_ret
    exact hD.out _ _ ⟨rfl, HX.out⟩
  have hn40 : n ≤ 40 := by omega
  obtain ⟨W0, hW0⟩ : ∃ W0, W0 = w.alloc (.cells #[.slice none 0 0] 26) := ⟨_, rfl⟩
  have x0 : Ext w W0 := by rw [hW0]; exact Ext.alloc _ _
  have H0 : WrAt W0 w.heap.size w.heap.size [] none := by rw [hW0]; exact ⟨.slice none 0 0, Blk.new _ _ _, World.ownsRow_nil _ _ _ _, rfl⟩
  have HX0 := Lib.hid (And.intro H0 x0)
  have HW0 := Lib.hid hW0
  clear x0 H0 hW0
  go_enter Try.func3, Try.ntmps3
  go_wp2
  rw [← HW0.out]
  go_loopw [4, 5] (fun t i wr => ∃ (j : Nat) (D1 : List UInt8) (g : Option Nat), j ≤ n ∧ t = .string (str D1) ∧ i = .int .i64 j ∧ D1.length ≤ 310 * j ∧ Hid (WrAt wr w.heap.size w.heap.size D1 g ∧ Below w.heap.size w wr)) (fun _ i _ => n - (intOf i).toNat)
  case atStart => exact ⟨0, [], none, by omega, rfl, rfl, by simp, HX0.out⟩
  case round =>
    obtain ⟨j, D1, g, hj, rfl, rfl, hDl, HW⟩ := hrel
    have HD1 : Hid (D1.length ≤ 12400) := by (show _ ≤ _); omega
    have HBW := Lib.hid HW.out.2
    have HG := Lib.hid HW.out.1.glt
    by_cases hlt : j < n
    · obtain ⟨x, hx⟩ : ∃ x, l[j]? = some x := ⟨_, List.getElem?_eq_getElem (by rw [← HLN.out]; exact hlt)⟩
      obtain ⟨b, o, rfl, q0, q1, q2, q3, q4, hok⟩ := HS.out j x hx
      have HC0 : Hid (∀ V, Below w.heap.size w V → V.cell? ⟨b, o + j * 5, none⟩ = some (.int .i64 x.kind)) := fun V h => below_stay q0 h
      have HC1 : Hid (∀ V, Below w.heap.size w V → V.cell? ⟨b, o + j * 5 + 1, none⟩ = some (.int .u64 x.n)) := fun V h => below_stay q1 h
      have HC2 : Hid (∀ V, Below w.heap.size w V → V.cell? ⟨b, o + j * 5 + 2, none⟩ = some (.string x.s)) := fun V h => below_stay q2 h
      have HC3 : Hid (∀ V, Below w.heap.size w V → V.cell? ⟨b, o + j * 5 + 3, none⟩ = some (.bool x.yes)) := fun V h => below_stay q3 h
      have HOK := Lib.hid hok
      have c0 := HC0.out wr HBW.out
      have c1 := HC1.out wr HBW.out
      have c2 := HC2.out wr HBW.out
      have c3 := HC3.out wr HBW.out
      have HKC := Lib.hid (And.intro HX0.out HW.out)
      clear q0 q1 q2 q3 q4 hok hx HX0
      obtain ⟨xk, xn, xs, xy, xm⟩ := x
      simp only at c0 c1 c2 c3
      by_cases hs3 : (300 : Int) < (xs.size : Int)
      · go_wp2_with (go_at_call 15; (with_reducible refine (HTO.out _).mono ?_); rintro e w1 ⟨rfl, hx⟩; have HX := Lib.hid hx; clear hx)
        try go_ret
        exact hD.out _ _ ⟨rfl, Below.step HBW.out HX.out⟩
      have hs300 : xs.size ≤ 300 := by omega
      have HN64 : Hid (xn < 18446744073709551616) := HOK.out.1
      clear HOK
      by_cases hk0 : xk = 0
      · subst hk0
        have C1 : Hid (Calls Try.prog 16 #[.pointer (some ⟨w.heap.size, 0, none⟩), .int .u64 xn] wr fun e w' => e = .returned (.tuple #[]) ∧ WrTo wr w' w.heap.size w.heap.size (D1 ++ numB xn) g) := numW_any w.heap.size w.heap.size D1 g xn wr HKC.out.2.1 HN64.out (by have := HD1.out; omega) HBW.out.size
        have C2 : Hid (∀ V, Calls Try.prog 17 #[.int .u64 xn] V fun e w' => e = .returned (.string (str (numB xn))) ∧ Ext V w') := fun V => refNum_any xn V HN64.out
        have HLX : Hid ((numB xn).length ≤ 310) := (by (show _ ≤ _); exact Nat.le_trans (numF_len 10 xn) (by omega))
        have hsum : (str D1).size + (str (numB xn)).size ≤ 1000000000 := by (rw [str_size, str_size]); have := HLX.out; have := HD1.out; omega
        clear HKC
        obtain ⟨M, hM⟩ : ∃ M, M = numB xn := ⟨_, rfl⟩
        rw [← hM] at C1 C2 HLX hsum
        clear hM
        go_wp2_with (first
          | (go_at_call 16; (with_reducible refine C1.out.mono ?_); rintro e w1 ⟨rfl, hw⟩; have hx := hw.low (B := w.heap.size) (Nat.le_refl _) (fun k hk => (HG.out k hk).1) HBW.out.size; have HW1 := Lib.hid hw; have B1 : Hid (Below w.heap.size w w1) := Below.trans HBW.out hx; have c0 := HC0.out w1 B1.out; have c1 := HC1.out w1 B1.out; have c2 := HC2.out w1 B1.out; have c3 := HC3.out w1 B1.out; clear hw hx)
          | (go_at_call 17; (with_reducible refine (C2.out _).mono ?_); rintro e w2 ⟨rfl, hx⟩; have X2 : Hid (Ext w1 w2) := hx; clear hx))
        obtain ⟨g2, k1, k2, k3⟩ := HW1.out
        have HW2 := Lib.hid (And.intro (k1.stay X2.out) (Below.trans B1.out (Below.mono X2.out B1.out.size)))
        have hap : str D1 ++ str M = str (D1 ++ M) := (str_append D1 M).symm
        clear c0 c1 c2 c3 k1 k2 k3 C1 C2
        go_roundw
        case rel => exact ⟨j + 1, D1 ++ M, g2, by omega, by rw [hap], by go_num, by simp; have := HLX.out; omega, HW2.out⟩
        case measure => simp [intOf]; omega
      by_cases hk1 : xk = 1
      · subst hk1
        have C1 : Hid (Calls Try.prog 18 #[.pointer (some ⟨w.heap.size, 0, none⟩), .string xs] wr fun e w' => e = .returned (.tuple #[]) ∧ WrTo wr w' w.heap.size w.heap.size (D1 ++ textB xs) g) := textW_any w.heap.size w.heap.size D1 g xs wr HKC.out.2.1 (by omega) (by have := HD1.out; omega) HBW.out.size
        have C2 : Hid (∀ V, Calls Try.prog 19 #[.string xs] V fun e w' => e = .returned (.string (str (textB xs))) ∧ Ext V w') := fun V => refText_any xs V (by omega)
        have HLX : Hid ((textB xs).length ≤ 310) := (by (show _ ≤ _); unfold textB; rw [List.length_append]; have h1 := numF_len 10 xs.size; have h2 : xs.data.toList.length = xs.size := (by rw [Array.length_toList]; rfl); unfold numB; omega)
        have hsum : (str D1).size + (str (textB xs)).size ≤ 1000000000 := by (rw [str_size, str_size]); have := HLX.out; have := HD1.out; omega
        clear HKC
        obtain ⟨M, hM⟩ : ∃ M, M = textB xs := ⟨_, rfl⟩
        rw [← hM] at C1 C2 HLX hsum
        clear hM
        go_wp2_with (first
          | (go_at_call 18; (with_reducible refine C1.out.mono ?_); rintro e w1 ⟨rfl, hw⟩; have hx := hw.low (B := w.heap.size) (Nat.le_refl _) (fun k hk => (HG.out k hk).1) HBW.out.size; have HW1 := Lib.hid hw; have B1 : Hid (Below w.heap.size w w1) := Below.trans HBW.out hx; have c0 := HC0.out w1 B1.out; have c1 := HC1.out w1 B1.out; have c2 := HC2.out w1 B1.out; have c3 := HC3.out w1 B1.out; clear hw hx)
          | (go_at_call 19; (with_reducible refine (C2.out _).mono ?_); rintro e w2 ⟨rfl, hx⟩; have X2 : Hid (Ext w1 w2) := hx; clear hx))
        obtain ⟨g2, k1, k2, k3⟩ := HW1.out
        have HW2 := Lib.hid (And.intro (k1.stay X2.out) (Below.trans B1.out (Below.mono X2.out B1.out.size)))
        have hap : str D1 ++ str M = str (D1 ++ M) := (str_append D1 M).symm
        clear c0 c1 c2 c3 k1 k2 k3 C1 C2
        go_roundw
        case rel => exact ⟨j + 1, D1 ++ M, g2, by omega, by rw [hap], by go_num, by simp; have := HLX.out; omega, HW2.out⟩
        case measure => simp [intOf]; omega

      · have C1 : Hid (Calls Try.prog 20 #[.pointer (some ⟨w.heap.size, 0, none⟩), .bool xy] wr fun e w' => e = .returned (.tuple #[]) ∧ WrTo wr w' w.heap.size w.heap.size (D1 ++ yesB xy) g) := yesW_any w.heap.size w.heap.size D1 g xy wr HKC.out.2.1 (by have := HD1.out; omega) HBW.out.size
        have C2 : Hid (∀ V, Calls Try.prog 21 #[.bool xy] V fun e w' => e = .returned (.string (str (yesB xy))) ∧ Ext V w') := fun V => (refYes_any xy V).mono fun e w' ⟨h1, h2⟩ => ⟨h1, h2 ▸ Ext.refl _⟩
        have HLX : Hid ((yesB xy).length ≤ 310) := (by (show _ ≤ _); unfold yesB; split <;> simp)
        have hsum : (str D1).size + (str (yesB xy)).size ≤ 1000000000 := by (rw [str_size, str_size]); have := HLX.out; have := HD1.out; omega
        clear HKC
        obtain ⟨M, hM⟩ : ∃ M, M = yesB xy := ⟨_, rfl⟩
        rw [← hM] at C1 C2 HLX hsum
        clear hM
        go_wp2_with (first
          | (go_at_call 20; (with_reducible refine C1.out.mono ?_); rintro e w1 ⟨rfl, hw⟩; have hx := hw.low (B := w.heap.size) (Nat.le_refl _) (fun k hk => (HG.out k hk).1) HBW.out.size; have HW1 := Lib.hid hw; have B1 : Hid (Below w.heap.size w w1) := Below.trans HBW.out hx; have c0 := HC0.out w1 B1.out; have c1 := HC1.out w1 B1.out; have c2 := HC2.out w1 B1.out; have c3 := HC3.out w1 B1.out; clear hw hx)
          | (go_at_call 21; (with_reducible refine (C2.out _).mono ?_); rintro e w2 ⟨rfl, hx⟩; have X2 : Hid (Ext w1 w2) := hx; clear hx))
        obtain ⟨g2, k1, k2, k3⟩ := HW1.out
        have HW2 := Lib.hid (And.intro (k1.stay X2.out) (Below.trans B1.out (Below.mono X2.out B1.out.size)))
        have hap : str D1 ++ str M = str (D1 ++ M) := (str_append D1 M).symm
        clear c0 c1 c2 c3 k1 k2 k3 C1 C2
        go_roundw
        case rel => exact ⟨j + 1, D1 ++ M, g2, by omega, by rw [hap], by go_num, by simp; have := HLX.out; omega, HW2.out⟩
        case measure => simp [intOf]; omega
    · obtain rfl : j = n := by omega
      have HLD : Hid (D1.length ≤ 12400) := HD1
      have CB : Hid (∀ V, WrAt V w.heap.size w.heap.size D1 g → Calls Try.prog 22 #[.pointer (some ⟨w.heap.size, 0, none⟩)] V fun e w' => ∃ A cap, e = .returned (.slice A D1.length cap) ∧ w'.ownsRow V.heap.size 5 1 (.slice A D1.length cap) D1.length (D1.map Go.Proofs.Ytfpelhjiaabglaa.u8) ∧ Ext V w') := fun V h => bytes_any w.heap.size w.heap.size D1 g V h (by have := HLD.out; omega)
      have HCV : Hid (∀ V A' c', Sl Go.Proofs.Ytfpelhjiaabglaa.u8 V A' D1 → (convert 24 9 (.slice A' D1.length c')).run Try.prog V = .ok (.string (str D1)) V) := fun V A' c' h => run_str (P := Try.prog) (w := V) 24 9 5 A' D1 c' Try.underlying24 Try.underlying5 Try.underlying9 h
      have HK1 := Lib.hid HW.out.1
      clear HX0 HW HD1
      go_wp2_with fail
      go_at_call 22
      with_reducible refine (CB.out _ HK1.out).mono ?_
      rintro e w1 ⟨A1, cap1, rfl, ho, hx⟩
      have HO1 := Lib.hid ho
      have X1 := Lib.hid hx
      clear ho hx
      by_cases h0 : D1.length = 0
      · have hz : (D1.length : Int) = 0 := by omega
        have HCV0 : Hid (∀ V A' c', Sl Go.Proofs.Ytfpelhjiaabglaa.u8 V A' D1 → (convert 24 9 (.slice A' 0 c')).run Try.prog V = .ok (.string (str D1)) V) := fun V A' c' h => by
          have := HCV.out V A' c' h
          rwa [h0] at this
        have HCV := HCV0
        clear HCV0
        have K1 : Hid (WrAt w1 w.heap.size w.heap.size D1 g) := HK1.out.stay X1.out
        have B1 : Hid (Below w.heap.size w w1) := Below.step HBW.out X1.out
        go_wp2_with (first
          | (go_at_call 15; (with_reducible refine (HTO.out _).mono ?_); rintro e w2 ⟨rfl, hx⟩; have K2 := Lib.hid (K1.out.stay hx); have B2 : Hid (Below w.heap.size w w2) := Below.step B1.out hx; clear hx)
          | (go_at_call 22; (with_reducible refine (CB.out _ K2.out).mono ?_); rintro e w3 ⟨A3, cap3, rfl, ho, hx⟩; obtain ⟨A9, c9, e9, hsl⟩ := own_view ho; injection e9 with e1 e2 e3; subst e1; have hcv := HCV.out w3 _ cap3 hsl; have B3 : Hid (Below w.heap.size w w3) := Below.step B2.out hx; clear ho hx e2 e3 hsl))
        try go_ret
        exact hD.out _ _ ⟨rfl, B3.out⟩
      · have hz : (0 : Int) < (D1.length : Int) := by omega
        obtain ⟨gb, c2, cur, e, hgb, KB, hck, hc2⟩ := own_at (k := 0) HO1.out (by omega)
        injection e with e1 e2 e3
        subst e1 e3
        have ck := KB.cell 0
        rw [hck] at ck
        have fk := KB.frozen 0
        obtain ⟨y, hy⟩ : ∃ y : UInt8, y = D1[0]'(by omega) := ⟨_, rfl⟩
        rw [← hy] at ck
        replace ck : w1.cell? ⟨gb, 0, none⟩ = some (.int .u8 (y.toNat : Int)) := ck
        have B0 : ∀ v, Ext w1 w1 → Below wr.heap.size wr (w1.setCell ⟨gb, 0, none⟩ v) := fun v _ => (X1.out).setCell (p := ⟨gb, 0, none⟩) hgb _
        have K1' : Hid (∀ v, WrAt (w1.setCell ⟨gb, 0, none⟩ v) w.heap.size w.heap.size D1 g) := fun v => HK1.out.stay (B0 v (Ext.refl _))
        have B1' : Hid (∀ v, Below w.heap.size w (w1.setCell ⟨gb, 0, none⟩ v)) := fun v => Below.step HBW.out (B0 v (Ext.refl _))
        clear hy hck hgb KB HO1 B0 hc2
        go_wp2_with fail
        obtain ⟨V, hV⟩ : ∃ V, V = w1.setCell ⟨gb, 0, none⟩ (.int .u8 (((y.toNat : Int) + 1) % 256)) := ⟨_, rfl⟩
        rw [← hV]
        have K1 := Lib.hid (K1'.out (.int .u8 (((y.toNat : Int) + 1) % 256)))
        have B1 := Lib.hid (B1'.out (.int .u8 (((y.toNat : Int) + 1) % 256)))
        rw [← hV] at K1 B1
        clear hV K1' B1' ck fk
        go_wp2_with (first
          | (go_at_call 15; (with_reducible refine (HTO.out _).mono ?_); rintro e w2 ⟨rfl, hx⟩; have K2 := Lib.hid (K1.out.stay hx); have B2 : Hid (Below w.heap.size w w2) := Below.step B1.out hx; clear hx)
          | (go_at_call 22; (with_reducible refine (CB.out _ K2.out).mono ?_); rintro e w3 ⟨A3, cap3, rfl, ho, hx⟩; obtain ⟨A9, c9, e9, hsl⟩ := own_view ho; injection e9 with e1 e2 e3; subst e1; have hcv := HCV.out w3 _ cap3 hsl; have B3 : Hid (Below w.heap.size w w3) := Below.step B2.out hx; clear ho hx e2 e3 hsl))
        try go_ret
        exact hD.out _ _ ⟨rfl, B3.out⟩
set_option maxRecDepth 100000 in
theorem law_packWrites {H : Type} {enc : TypeId × Value → H} (W : World) (base : Nat) (args : Array Value) (ds : List (DataW H)) (p : List MemPlace)
    (hval : ∀ (j : Nat) t v, Try.f3.params[j]? = some t → args[j]? = some v → Value.okWide Try.prog W .any base t v)
    (hA : DataW.TrodAll enc Try.prog W 0 (fun _ => true) true Try.f3.params.toList args.toList ds p) :
    Calls Try.prog 3 args W fun e W' => e = .returned (.bool true) ∧ Below W.heap.size W W' := by
  rw [Try.params3] at hA hval
  obtain ⟨v0, vs0, d0, ds0, p0, q0, hargs, rfl, rfl, h0, r0⟩ := trodAll_cons hA
  obtain ⟨rfl, rfl, rfl⟩ := trodAll_nil r0
  obtain rfl : args = #[v0] := by cases args; simp_all
  obtain ⟨A0, n0, c0, rfl⟩ := okWide_slice Try.underlying22 (hval 0 22 v0 rfl rfl)
  obtain ⟨fuel0, hf0⟩ := h0
  obtain ⟨B0, l0, e0, hcs0, x0, y0⟩ := open_ops1 hf0
  simp only [Value.cells, List.cons.injEq, Value.slice.injEq, and_true] at hcs0
  obtain ⟨rfl, rfl, rfl⟩ := hcs0
  exact walk_packWrites A0 l0 c0 W x0 y0

end Go.Proofs.Ytfpelhjiaabglaa
