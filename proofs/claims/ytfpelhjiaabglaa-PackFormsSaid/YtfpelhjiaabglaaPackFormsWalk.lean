/-
  The walk of the law PackForms.
-/
import Derived.Test.YtfpelhjiaabglaaNumLaw
import Derived.Test.YtfpelhjiaabglaaTurn
namespace Go.Proofs.Ytfpelhjiaabglaa
set_option linter.unusedVariables false
set_option linter.unusedSimpArgs false
open Go.RowKit Go.ChangeShapes Go.WideShapes

theorem mem_big {L : List UInt8} {y : UInt8} (h : ∀ x ∈ L, 128 ≤ x.toNat) (hy : 128 ≤ y.toNat) : ∀ x ∈ L ++ [y], 128 ≤ x.toNat := fun x hx => by
  rcases List.mem_append.1 hx with h1 | h1
  · exact h x h1
  · simp at h1; subst h1; exact hy
theorem big_set {l : List UInt8} {k : Nat} (hk : k + 1 = l.length) (hb : ∃ d c, l = d ++ [c] ∧ ∀ x ∈ d, 128 ≤ x.toNat) (c : UInt8) (hc : 128 ≤ c.toNat) : ∀ x ∈ l.set k c, 128 ≤ x.toNat := by
  obtain ⟨d, c0, rfl, hd⟩ := hb
  have e : k = d.length := by simpa using hk
  subst e
  intro x hx
  rw [List.set_append_right _ _ (Nat.le_refl _), Nat.sub_self] at hx
  rcases List.mem_append.1 hx with h | h
  · exact hd x h
  · simp at h; subst h; exact hc

set_option maxRecDepth 8000 in
set_option maxHeartbeats 8000000 in
theorem walk_packForms (v most more : Int) (w : World) (hv : 0 ≤ v ∧ v ≤ 18446744073709551615) (hm : 0 ≤ most ∧ most ≤ 18446744073709551615) :
    Calls Try.prog 8 #[.int .u64 v, .int .u64 most, .int .i64 more] w fun e w' => e = .returned (.bool true) ∧ Below w.heap.size w w' := by
  refine hide_post fun D hD => ?_
  obtain ⟨vn, rfl⟩ : ∃ n : Nat, v = n := ⟨v.toNat, by omega⟩
  obtain ⟨mn, rfl⟩ : ∃ n : Nat, most = n := ⟨most.toNat, by omega⟩
  have HV : Hid (vn < 18446744073709551616) := by (show _ < _); omega
  clear hv hm
  have HTO : Hid (∀ V, Calls Try.prog 15 #[] V fun e w' => e = .returned (.bool true) ∧ Ext V w') := told1
  obtain ⟨l, hl⟩ : ∃ l, l = numB vn := ⟨_, rfl⟩
  have HL : Hid (l.length ≤ 10) := by (show _ ≤ _); rw [hl]; exact numF_len 10 vn
  have hl0 : 0 < l.length := by
    rcases l with _ | ⟨x, r⟩
    · exact absurd hl.symm (numB_ne vn)
    · simp
  have HBIG : Hid (∃ d c, l = d ++ [c] ∧ ∀ x ∈ d, 128 ≤ x.toNat) := by (show ∃ _, _); rw [hl]; exact numF_big 9 vn
  obtain ⟨x, r, b, hx, hr⟩ : ∃ x r b, rdNum l false mn = (x, r, b) ∧ (if mn < vn then x = 0 ∧ r = l ∧ b = true else x = vn ∧ r = [] ∧ b = false) := by
    have h := rdNum_numB mn vn [] HV.out
    rw [List.append_nil, ← hl] at h
    rw [h]
    by_cases hc : mn < vn
    · rw [if_pos hc]; exact ⟨_, _, _, rfl, by rw [if_pos hc]; exact ⟨rfl, rfl, rfl⟩⟩
    · rw [if_neg hc]; exact ⟨_, _, _, rfl, by rw [if_neg hc]; exact ⟨rfl, rfl, rfl⟩⟩
  have HRX := Lib.hid hx
  have HR := Lib.hid hr
  obtain ⟨W0, hW0⟩ : ∃ W0, W0 = w.alloc (.cells #[.slice none 0 0] 26) := ⟨_, rfl⟩
  have x0 : Ext w W0 := by rw [hW0]; exact Ext.alloc _ _
  have H0 : WrAt W0 w.heap.size w.heap.size [] none := by rw [hW0]; exact ⟨.slice none 0 0, Blk.new _ _ _, World.ownsRow_nil _ _ _ _, rfl⟩
  have C1 : Hid (Calls Try.prog 16 #[.pointer (some ⟨w.heap.size, 0, none⟩), .int .u64 vn] W0 fun e w' => e = .returned (.tuple #[]) ∧ WrTo W0 w' w.heap.size w.heap.size l none) := by rw [hl]; exact numW_any w.heap.size w.heap.size [] none vn W0 H0 HV.out (by simp) x0.size
  have HX0 := Lib.hid x0
  have HW0 := Lib.hid hW0
  have HLE := Lib.hid hl
  clear x0 H0 hW0 hl hx hr HV
  go_enter Try.func8, Try.ntmps8
  go_wp2_with fail
  rw [← HW0.out]
  go_at_call 16
  with_reducible refine C1.out.mono ?_
  rintro e w1 ⟨rfl, h1⟩
  have b1 : Below w.heap.size w w1 := Below.trans HX0.out (h1.low (Nat.le_refl _) (by simp) HX0.out.size)
  obtain ⟨g1, k1, _, _⟩ := h1
  have C2 : Hid (Calls Try.prog 22 #[.pointer (some ⟨w.heap.size, 0, none⟩)] w1 fun e w' => ∃ A cap, e = .returned (.slice A l.length cap) ∧ w'.ownsRow w1.heap.size 5 1 (.slice A l.length cap) l.length (l.map u8) ∧ Ext w1 w') := bytes_any w.heap.size w.heap.size l g1 w1 k1 (by have := HL.out; omega)
  have B1 := Lib.hid b1
  clear k1 b1 C1
  go_wp2_with fail
  go_at_call 22
  with_reducible refine C2.out.mono ?_
  rintro e w2 ⟨A, cap, rfl, ho, hx⟩
  have S2 : Hid (Sl u8 w2 A l) := by
    obtain ⟨A', c', e, hs⟩ := own_view ho
    injection e with e1 e2 e3
    subst e1
    exact hs
  have B2 : Hid (Below w.heap.size w w2) := Below.trans B1.out (Below.mono hx B1.out.size)
  have C3 : Hid (Calls Try.prog 23 #[.slice A l.length cap] w2 fun e w' => ∃ P, e = .returned (.pointer (some ⟨P, 0, none⟩)) ∧ RdAt w' P l false ∧ Ext w2 w' ∧ w2.heap.size ≤ P) := new_any A cap l w2 S2.out (by have := HL.out; omega)
  clear ho hx C2
  have hl1 : ¬ (l.length : Int) = 0 := by omega
  go_wp2_with fail
  go_at_call 23
  with_reducible refine C3.out.mono ?_
  rintro e w3 ⟨P, rfl, hr, hx, hP⟩
  have B3 : Hid (Below w.heap.size w w3) := Below.trans B2.out (Below.mono hx B2.out.size)
  have HPw : Hid (w2.heap.size ≤ P) := hP
  have C4 : Hid (Calls Try.prog 24 #[.pointer (some ⟨P, 0, none⟩), .int .u64 mn] w3 fun e w' => e = .returned (.int .u64 x) ∧ RdAt w' P r b ∧ Frm (fun k => k = P) w3 w') := by
    have := numR_any P l false mn w3 hr (by have := HL.out; omega)
    rwa [HRX.out] at this
  have X3 : Hid (Ext w2 w3) := hx
  clear hr hx hP C3
  go_wp2_with fail
  go_at_call 24
  with_reducible refine C4.out.mono ?_
  rintro e w4 ⟨rfl, hr, hf⟩
  have B4 : Hid (Below w.heap.size w w4) := Below.trans B3.out (hf.below B3.out.size (fun k hk => by have := HPw.out; have := B2.out.size; omega))
  have X4 : Hid (Ext w2 w4) := Below.trans X3.out (hf.below X3.out.size (fun k hk => by have := HPw.out; omega))
  have S4 : Hid (Sl u8 w4 A l) := S2.out.stay X4.out
  have HE : Hid (Calls Try.prog 30 #[.pointer (some ⟨P, 0, none⟩)] w4 fun e w' => e = .returned (.int .i64 (endN r b)) ∧ w4 = w') := endR_any P r b w4 hr (by
    have h1 := HR.out
    by_cases hc : mn < vn
    · rw [if_pos hc] at h1; rw [h1.2.1]; have := HL.out; omega
    · rw [if_neg hc] at h1; rw [h1.2.1]; simp)
  clear hr hf C4 HPw X3 X4 S2 B1 B2 B3 HX0
  have hm := Lib.hid (World.ownsRow_made (base := w4.heap.size) (e := 5) (size := 1) w4 #[] 0 (Nat.le_refl _) (Nat.zero_le _) rfl)
  have HS : Hid (Sl u8 (w4.alloc (.cells #[] 5)) A l) := S4.out.stay (Ext.alloc _ _)
  have HL10 := HL.out
  obtain ⟨k, hk⟩ : ∃ k, k + 1 = l.length := ⟨l.length - 1, by omega⟩
  have HK := Lib.hid hk
  have hkl : k < l.length := by omega
  have HKL := Lib.hid hkl
  obtain ⟨c0, hc0⟩ : ∃ c, c = l[k] := ⟨_, rfl⟩
  have HC0 := Lib.hid hc0.symm
  obtain ⟨c1, hc1⟩ : ∃ c, c = UInt8.ofNat (c0.toNat % 128 + 128) := ⟨_, rfl⟩
  have hor : bits BinOp.or IntKind.u8 (c0.toNat : Int) 128 = (c1.toNat : Int) := by
    have h := or_all ⟨c0.toNat, c0.toNat_lt⟩
    simp only at h
    rw [h, hc1, UInt8.toNat_ofNat']
    omega
  have HLP : Hid (0 < (l.set k c1).length) := by (show _ < _); rw [List.length_set]; exact hl0
  have HB1 : Hid (∀ x ∈ l.set k c1, 128 ≤ x.toNat) := big_set hk HBIG.out c1 (by rw [hc1, UInt8.toNat_ofNat']; omega)
  obtain ⟨m, hm2, hmm⟩ : ∃ m : Nat, m ≤ 2 ∧ (IntKind.u64.wrap more).tmod 3 = (m : Int) := by
    have hw : 0 ≤ IntKind.u64.wrap more := by
      rw [show IntKind.u64.wrap more = more % 18446744073709551616 by simp [IntKind.wrap, IntKind.bits, IntKind.signed]]; omega
    have e := Int.tmod_eq_emod_of_nonneg (b := (3 : Int)) hw
    exact ⟨((IntKind.u64.wrap more).tmod 3).toNat, by omega, by omega⟩
  have hnk : (l.length : Int) - 1 = (k : Int) := by omega
  have hnw : IntKind.i64.wrap ((l.length : Int) - 1) = (k : Int) := by rw [IntWalk.i64_in _ (by omega)]; exact hnk
  have hkn : (k : Int) < (l.length : Int) := by omega
  have hk0 : (0 : Int) ≤ (k : Int) := by omega
  clear hk hkl hc0 hc1 HBIG
  by_cases hc : mn < vn
  · have hR := HR.out
    rw [if_pos hc] at hR
    obtain ⟨rfl, hrl, rfl⟩ := hR
    have hg : (mn : Int) < (vn : Int) := by omega
    have hng : ¬ (vn : Int) ≤ (mn : Int) := by omega
    have HE1 : Hid (Calls Try.prog 30 #[.pointer (some ⟨P, 0, none⟩)] w4 fun e w' => e = .returned (.int .i64 2) ∧ w4 = w') := by have h2 := HE.out; rw [hrl] at h2; exact h2
    clear hc HR HE HRX hrl
    go_wp2_with (first
      | (go_at_call 30; (with_reducible refine HE1.out.mono ?_); rintro e w5 ⟨rfl, rfl⟩)
      | (at_builtin; refine wpList_append_list rfl _ _ 24 rfl w4.heap.size 5 (.int .u8 0) 1 Try.underlying24 info_byte rfl (by omega) (.slice (some ⟨w4.heap.size, 0, none⟩) 0 0) 0 [] rfl hm.out Go.Proofs.Ytfpelhjiaabglaa.u8 A l l.length cap rfl rfl HS.out (fun _ => rfl) (by omega) (by simp) ?_; intro v' w' h1 h2 h3; rw [Nat.zero_add, List.nil_append] at h1; have H1 := Lib.hid h1; have H2 := Lib.hid h2; clear h1 h2 h3; obtain ⟨g, c2, cur, rfl, hgb, KB, hck, hc2⟩ := own_at (k := k) H1.out HKL.out; have ck := KB.cell k; rw [hck] at ck; replace ck : w'.cell? ⟨g, k, none⟩ = some (.int .u8 (c0.toNat : Int)) := ck.trans (by (show some (Go.Proofs.Ytfpelhjiaabglaa.u8 l[k]) = _); rw [HC0.out]; rfl); have fk := KB.frozen k; clear hck))
    have ho := own_set H1.out HKL.out c1
    change World.ownsRow (w'.setCell ⟨g, k, none⟩ (.int .u8 (c1.toNat : Int))) _ _ _ _ _ _ at ho
    have bx : Below w.heap.size w (w'.setCell ⟨g, k, none⟩ (.int .u8 (c1.toNat : Int))) := (Below.step B4.out (((Below.refl _ _).alloc (Nat.le_refl _) _).grown (row := some w4.heap.size) H2.out (by simp) (fun k hk => by injection hk with hk; omega))).setCell (p := ⟨g, k, none⟩) (Nat.le_trans B4.out.size hgb) _
    have hz : w4.heap.size ≤ (w'.setCell ⟨g, k, none⟩ (.int .u8 (c1.toNat : Int))).heap.size := by
      have := Blk.lt KB
      simp
      omega
    have hb1 := HB1.out
    have hLn : (l.set k c1).length = l.length := List.length_set
    rw [← hLn] at ho
    rw [← hLn] at HL10
    go_wp2
    rw [← hLn]
    generalize l.set k c1 = L1 at *
    have HS1 := Lib.hid (And.intro ho (And.intro bx hz))
    have HB3 := Lib.hid hb1
    have HL10h := Lib.hid HL10
    clear ho bx hz hb1 hLn ck fk KB H1 H2 HB1 HKL HC0 hm HS S4 HE1 HL HLE HK hkn hk0 hnk hnw hor HW0 hc2 hg HL10 hng
    go_loopw [12, 13] (fun cs i wr => ∃ (j : Nat) (L : List UInt8) (A2 : Option Addr) (cp : Nat), j ≤ m ∧ cs = .slice A2 L.length cp ∧ i = .int .i64 j ∧ Hid (L.length ≤ 10 + j ∧ (0 < L.length) ∧ ∀ x ∈ L, 128 ≤ x.toNat) ∧ Hid (wr.ownsRow w4.heap.size 5 1 (.slice A2 L.length cp) L.length (L.map Go.Proofs.Ytfpelhjiaabglaa.u8) ∧ Below w.heap.size w wr ∧ w4.heap.size ≤ wr.heap.size)) (fun _ i _ => m - (intOf i).toNat)
    case atStart => exact ⟨0, L1, some ⟨g, 0, none⟩, c2, by omega, rfl, rfl, ⟨by have := HL10h.out; omega, HLP.out, HB3.out⟩, HS1.out⟩
    case round =>
      obtain ⟨j, L, A2, cp, hj, rfl, rfl, HLL, HW⟩ := hrel
      have HO := Lib.hid HW.out.1
      have hz := HW.out.2.2
      have hll := HLL.out.1
      have HBW : Hid (∀ (y : Value) W, (wr.alloc (.cells #[y] 5)).grownBy W (Value.slice A2 L.length cp).ownBlock → Below w.heap.size w W) := fun y W h => by
        refine Below.trans HW.out.2.1 (((Below.refl w.heap.size wr).alloc HW.out.2.1.size _).grown h (Nat.le_trans HW.out.2.1.size (by simp)) (fun k hk => ?_))
        have := HO.out.lt k hk
        have := B4.out.size
        omega
      by_cases hlt : j < m
      · go_wp2_with (at_builtin; refine wpList_append_list rfl _ _ 24 rfl w4.heap.size 5 (.int .u8 0) 1 Try.underlying24 info_byte rfl (by omega) (.slice A2 L.length cp) L.length (L.map Go.Proofs.Ytfpelhjiaabglaa.u8) rfl (HO.out.alloc _) Go.Proofs.Ytfpelhjiaabglaa.u8 (some ⟨wr.heap.size, 0, none⟩) [128] 1 1 rfl rfl (Sl.of_blk (Blk.new wr 5 #[.int .u8 128]) (fun j v hj => by match j, hj with | 0, hj => (simp at hj; subst hj; rfl))) (fun _ => rfl) (by simp; omega) (by simp; omega) ?_; intro v' W h1 h2 h3; obtain ⟨A', c', rfl⟩ := own_shape h1; have H1b := Lib.hid h1; have H2b := Lib.hid h2; clear h1 h2 h3)
        go_roundw
        case rel => exact ⟨j + 1, L ++ [128], A', c', by omega, by simp, by go_num, ⟨by simp; omega, by simp, mem_big HLL.out.2.2 (by decide)⟩, ⟨by have := H1b.out; simpa using this, HBW.out _ _ H2b.out, by have := H2b.out.size; simp at this; omega⟩⟩
        case measure => simp [intOf]; omega
      · obtain rfl : j = m := by omega
        go_wp2_with (at_builtin; refine wpList_append_list rfl _ _ 24 rfl w4.heap.size 5 (.int .u8 0) 1 Try.underlying24 info_byte rfl (by omega) (.slice A2 L.length cp) L.length (L.map Go.Proofs.Ytfpelhjiaabglaa.u8) rfl (HO.out.alloc _) Go.Proofs.Ytfpelhjiaabglaa.u8 (some ⟨wr.heap.size, 0, none⟩) [0] 1 1 rfl rfl (Sl.of_blk (Blk.new wr 5 #[.int .u8 0]) (fun j v hj => by match j, hj with | 0, hj => (simp at hj; subst hj; rfl))) (fun _ => rfl) (by simp; omega) (by simp; omega) ?_; intro v' W h1 h2 h3; obtain ⟨A', c', rfl⟩ := own_shape h1; have H1b := Lib.hid h1; have H2b := Lib.hid h2; clear h1 h2 h3)
        have hsl : Sl u8 W A' (L ++ [0]) := by
          obtain ⟨A9, c9, e, hs⟩ := own_view (l := L ++ [0]) (by have := H1b.out; simpa using this)
          injection e with e1 e2 e3
          subst e1
          exact hs
        have hbW := HBW.out _ _ H2b.out
        have C5 : Hid (Calls Try.prog 23 #[.slice A' (L.length + 1) c'] W fun e w' => ∃ P, e = .returned (.pointer (some ⟨P, 0, none⟩)) ∧ RdAt w' P (L ++ [0]) false ∧ Ext W w' ∧ W.heap.size ≤ P) := by
          have := new_any A' c' (L ++ [0]) W hsl (by simp; omega)
          rw [List.length_append] at this
          exact this
        have HRD : Hid (∀ M, rdNum (L ++ [0]) false M = (0, L ++ [0], true)) := fun M => rdNum_none (rdGo_tail M L 0 0 HLL.out.2.2 (by have := HLL.out.2.1; omega))
        have HLN : Hid ((L ++ [0]).length ≤ 1000) := by (show _ ≤ _); simp; omega
        have HBF := Lib.hid hbW
        clear hsl hbW H1b H2b HO HW HLL
        generalize L ++ [0] = L2 at *
        go_at_call 23
        with_reducible refine C5.out.mono ?_
        rintro e w6 ⟨Q, rfl, hr, hx, hQ⟩
        have b6 : Below w.heap.size w w6 := Below.trans HBF.out (Below.mono hx HBF.out.size)
        have B6 := Lib.hid b6
        have HQ : Hid (w.heap.size ≤ Q) := Nat.le_trans HBF.out.size hQ
        have C6 : Hid (Calls Try.prog 24 #[.pointer (some ⟨Q, 0, none⟩), .int .u64 18446744073709551615] w6 fun e w' => e = .returned (.int .u64 0) ∧ RdAt w' Q L2 true ∧ Frm (fun k => k = Q) w6 w') := by
          have := numR_any Q L2 false 18446744073709551615 w6 hr (by have := HLN.out; omega)
          rw [HRD.out] at this
          exact this
        have C7 : Hid (∀ V, RdAt V Q L2 true → Calls Try.prog 30 #[.pointer (some ⟨Q, 0, none⟩)] V fun e w' => e = .returned (.int .i64 2) ∧ V = w') := fun V h => endR_any Q L2 true V h (by have := HLN.out; omega)
        have C8 : Hid (∀ V, RdAt V Q L2 true → Calls Try.prog 26 #[.pointer (some ⟨Q, 0, none⟩), .int .i64 5] V fun e w' => e = .returned (.string ⟨#[]⟩) ∧ RdAt w' Q L2 true ∧ Frm (fun k => k = Q) V w') := fun V h => by
          have := textR_any Q L2 true 5 5 V (.inl rfl) h (by have := HLN.out; omega) (by decide)
          rw [rdText_bad] at this
          exact this
        have C9 : Hid (∀ V, RdAt V Q L2 true → Calls Try.prog 28 #[.pointer (some ⟨Q, 0, none⟩)] V fun e w' => e = .returned (.bool false) ∧ RdAt w' Q L2 true ∧ Frm (fun k => k = Q) V w') := fun V h => by
          have := yesR_any Q L2 true V h (by have := HLN.out; omega)
          rw [rdNum_bad] at this
          exact this
        clear hr hx hQ b6 C5 HRD HLN HBF HBW
        go_wp2_with (first
          | (go_at_call 24; (with_reducible refine C6.out.mono ?_); rintro e w7 ⟨rfl, hr, hf⟩; have B7 : Hid (Below w.heap.size w w7) := Below.trans B6.out (hf.below B6.out.size (fun k hk => by have := HQ.out; omega)); have R7 := Lib.hid hr; clear hr hf)
          | (go_at_call 15; (with_reducible refine (HTO.out _).mono ?_); rintro e w8 ⟨rfl, hx⟩; have B8 : Hid (Below w.heap.size w w8) := Below.trans B7.out (Below.mono hx B7.out.size); have R8 := Lib.hid (R7.out.stay hx); clear hx)
          | (go_at_call 30; (with_reducible refine (C7.out _ R8.out).mono ?_); rintro e w9 ⟨rfl, rfl⟩)
          | (go_at_call 26; (with_reducible refine (C8.out _ R8.out).mono ?_); rintro e w9 ⟨rfl, hr, hf⟩; have B9 : Hid (Below w.heap.size w w9) := Below.trans B8.out (hf.below B8.out.size (fun k hk => by have := HQ.out; omega)); have R9 := Lib.hid hr; clear hr hf)
          | (go_at_call 28; (with_reducible refine (C9.out _ R9.out).mono ?_); rintro e w10 ⟨rfl, hr, hf⟩; have B10 : Hid (Below w.heap.size w w10) := Below.trans B9.out (hf.below B9.out.size (fun k hk => by have := HQ.out; omega)); clear hr hf))
        try go_ret
        exact hD.out _ _ ⟨rfl, B10.out⟩
  · have hR := HR.out
    rw [if_neg hc] at hR
    obtain ⟨rfl, hrl, rfl⟩ := hR
    have hg : (x : Int) ≤ (mn : Int) := by omega
    have HE1 : Hid (Calls Try.prog 30 #[.pointer (some ⟨P, 0, none⟩)] w4 fun e w' => e = .returned (.int .i64 0) ∧ w4 = w') := by have h2 := HE.out; rw [hrl] at h2; exact h2
    clear hc HR HE HRX hrl
    go_wp2_with (first
      | (go_at_call 30; (with_reducible refine HE1.out.mono ?_); rintro e w5 ⟨rfl, rfl⟩)
      | (at_builtin; refine wpList_append_list rfl _ _ 24 rfl w4.heap.size 5 (.int .u8 0) 1 Try.underlying24 info_byte rfl (by omega) (.slice (some ⟨w4.heap.size, 0, none⟩) 0 0) 0 [] rfl hm.out Go.Proofs.Ytfpelhjiaabglaa.u8 A l l.length cap rfl rfl HS.out (fun _ => rfl) (by omega) (by simp) ?_; intro v' w' h1 h2 h3; rw [Nat.zero_add, List.nil_append] at h1; have H1 := Lib.hid h1; have H2 := Lib.hid h2; clear h1 h2 h3; obtain ⟨g, c2, cur, rfl, hgb, KB, hck, hc2⟩ := own_at (k := k) H1.out HKL.out; have ck := KB.cell k; rw [hck] at ck; replace ck : w'.cell? ⟨g, k, none⟩ = some (.int .u8 (c0.toNat : Int)) := ck.trans (by (show some (Go.Proofs.Ytfpelhjiaabglaa.u8 l[k]) = _); rw [HC0.out]; rfl); have fk := KB.frozen k; clear hck))
    have ho := own_set H1.out HKL.out c1
    change World.ownsRow (w'.setCell ⟨g, k, none⟩ (.int .u8 (c1.toNat : Int))) _ _ _ _ _ _ at ho
    have bx : Below w.heap.size w (w'.setCell ⟨g, k, none⟩ (.int .u8 (c1.toNat : Int))) := (Below.step B4.out (((Below.refl _ _).alloc (Nat.le_refl _) _).grown (row := some w4.heap.size) H2.out (by simp) (fun k hk => by injection hk with hk; omega))).setCell (p := ⟨g, k, none⟩) (Nat.le_trans B4.out.size hgb) _
    have hz : w4.heap.size ≤ (w'.setCell ⟨g, k, none⟩ (.int .u8 (c1.toNat : Int))).heap.size := by
      have := Blk.lt KB
      simp
      omega
    have hb1 := HB1.out
    have hLn : (l.set k c1).length = l.length := List.length_set
    rw [← hLn] at ho
    rw [← hLn] at HL10
    go_wp2
    rw [← hLn]
    generalize l.set k c1 = L1 at *
    have HS1 := Lib.hid (And.intro ho (And.intro bx hz))
    have HB3 := Lib.hid hb1
    have HL10h := Lib.hid HL10
    clear ho bx hz hb1 hLn ck fk KB H1 H2 HB1 HKL HC0 hm HS S4 HE1 HL HLE HK hkn hk0 hnk hnw hor HW0 hc2 hg HL10 
    go_loopw [12, 13] (fun cs i wr => ∃ (j : Nat) (L : List UInt8) (A2 : Option Addr) (cp : Nat), j ≤ m ∧ cs = .slice A2 L.length cp ∧ i = .int .i64 j ∧ Hid (L.length ≤ 10 + j ∧ (0 < L.length) ∧ ∀ x ∈ L, 128 ≤ x.toNat) ∧ Hid (wr.ownsRow w4.heap.size 5 1 (.slice A2 L.length cp) L.length (L.map Go.Proofs.Ytfpelhjiaabglaa.u8) ∧ Below w.heap.size w wr ∧ w4.heap.size ≤ wr.heap.size)) (fun _ i _ => m - (intOf i).toNat)
    case atStart => exact ⟨0, L1, some ⟨g, 0, none⟩, c2, by omega, rfl, rfl, ⟨by have := HL10h.out; omega, HLP.out, HB3.out⟩, HS1.out⟩
    case round =>
      obtain ⟨j, L, A2, cp, hj, rfl, rfl, HLL, HW⟩ := hrel
      have HO := Lib.hid HW.out.1
      have hz := HW.out.2.2
      have hll := HLL.out.1
      have HBW : Hid (∀ (y : Value) W, (wr.alloc (.cells #[y] 5)).grownBy W (Value.slice A2 L.length cp).ownBlock → Below w.heap.size w W) := fun y W h => by
        refine Below.trans HW.out.2.1 (((Below.refl w.heap.size wr).alloc HW.out.2.1.size _).grown h (Nat.le_trans HW.out.2.1.size (by simp)) (fun k hk => ?_))
        have := HO.out.lt k hk
        have := B4.out.size
        omega
      by_cases hlt : j < m
      · go_wp2_with (at_builtin; refine wpList_append_list rfl _ _ 24 rfl w4.heap.size 5 (.int .u8 0) 1 Try.underlying24 info_byte rfl (by omega) (.slice A2 L.length cp) L.length (L.map Go.Proofs.Ytfpelhjiaabglaa.u8) rfl (HO.out.alloc _) Go.Proofs.Ytfpelhjiaabglaa.u8 (some ⟨wr.heap.size, 0, none⟩) [128] 1 1 rfl rfl (Sl.of_blk (Blk.new wr 5 #[.int .u8 128]) (fun j v hj => by match j, hj with | 0, hj => (simp at hj; subst hj; rfl))) (fun _ => rfl) (by simp; omega) (by simp; omega) ?_; intro v' W h1 h2 h3; obtain ⟨A', c', rfl⟩ := own_shape h1; have H1b := Lib.hid h1; have H2b := Lib.hid h2; clear h1 h2 h3)
        go_roundw
        case rel => exact ⟨j + 1, L ++ [128], A', c', by omega, by simp, by go_num, ⟨by simp; omega, by simp, mem_big HLL.out.2.2 (by decide)⟩, ⟨by have := H1b.out; simpa using this, HBW.out _ _ H2b.out, by have := H2b.out.size; simp at this; omega⟩⟩
        case measure => simp [intOf]; omega
      · obtain rfl : j = m := by omega
        go_wp2_with (at_builtin; refine wpList_append_list rfl _ _ 24 rfl w4.heap.size 5 (.int .u8 0) 1 Try.underlying24 info_byte rfl (by omega) (.slice A2 L.length cp) L.length (L.map Go.Proofs.Ytfpelhjiaabglaa.u8) rfl (HO.out.alloc _) Go.Proofs.Ytfpelhjiaabglaa.u8 (some ⟨wr.heap.size, 0, none⟩) [0] 1 1 rfl rfl (Sl.of_blk (Blk.new wr 5 #[.int .u8 0]) (fun j v hj => by match j, hj with | 0, hj => (simp at hj; subst hj; rfl))) (fun _ => rfl) (by simp; omega) (by simp; omega) ?_; intro v' W h1 h2 h3; obtain ⟨A', c', rfl⟩ := own_shape h1; have H1b := Lib.hid h1; have H2b := Lib.hid h2; clear h1 h2 h3)
        have hsl : Sl u8 W A' (L ++ [0]) := by
          obtain ⟨A9, c9, e, hs⟩ := own_view (l := L ++ [0]) (by have := H1b.out; simpa using this)
          injection e with e1 e2 e3
          subst e1
          exact hs
        have hbW := HBW.out _ _ H2b.out
        have C5 : Hid (Calls Try.prog 23 #[.slice A' (L.length + 1) c'] W fun e w' => ∃ P, e = .returned (.pointer (some ⟨P, 0, none⟩)) ∧ RdAt w' P (L ++ [0]) false ∧ Ext W w' ∧ W.heap.size ≤ P) := by
          have := new_any A' c' (L ++ [0]) W hsl (by simp; omega)
          rw [List.length_append] at this
          exact this
        have HRD : Hid (∀ M, rdNum (L ++ [0]) false M = (0, L ++ [0], true)) := fun M => rdNum_none (rdGo_tail M L 0 0 HLL.out.2.2 (by have := HLL.out.2.1; omega))
        have HLN : Hid ((L ++ [0]).length ≤ 1000) := by (show _ ≤ _); simp; omega
        have HBF := Lib.hid hbW
        clear hsl hbW H1b H2b HO HW HLL
        generalize L ++ [0] = L2 at *
        go_at_call 23
        with_reducible refine C5.out.mono ?_
        rintro e w6 ⟨Q, rfl, hr, hx, hQ⟩
        have b6 : Below w.heap.size w w6 := Below.trans HBF.out (Below.mono hx HBF.out.size)
        have B6 := Lib.hid b6
        have HQ : Hid (w.heap.size ≤ Q) := Nat.le_trans HBF.out.size hQ
        have C6 : Hid (Calls Try.prog 24 #[.pointer (some ⟨Q, 0, none⟩), .int .u64 18446744073709551615] w6 fun e w' => e = .returned (.int .u64 0) ∧ RdAt w' Q L2 true ∧ Frm (fun k => k = Q) w6 w') := by
          have := numR_any Q L2 false 18446744073709551615 w6 hr (by have := HLN.out; omega)
          rw [HRD.out] at this
          exact this
        have C7 : Hid (∀ V, RdAt V Q L2 true → Calls Try.prog 30 #[.pointer (some ⟨Q, 0, none⟩)] V fun e w' => e = .returned (.int .i64 2) ∧ V = w') := fun V h => endR_any Q L2 true V h (by have := HLN.out; omega)
        have C8 : Hid (∀ V, RdAt V Q L2 true → Calls Try.prog 26 #[.pointer (some ⟨Q, 0, none⟩), .int .i64 5] V fun e w' => e = .returned (.string ⟨#[]⟩) ∧ RdAt w' Q L2 true ∧ Frm (fun k => k = Q) V w') := fun V h => by
          have := textR_any Q L2 true 5 5 V (.inl rfl) h (by have := HLN.out; omega) (by decide)
          rw [rdText_bad] at this
          exact this
        have C9 : Hid (∀ V, RdAt V Q L2 true → Calls Try.prog 28 #[.pointer (some ⟨Q, 0, none⟩)] V fun e w' => e = .returned (.bool false) ∧ RdAt w' Q L2 true ∧ Frm (fun k => k = Q) V w') := fun V h => by
          have := yesR_any Q L2 true V h (by have := HLN.out; omega)
          rw [rdNum_bad] at this
          exact this
        clear hr hx hQ b6 C5 HRD HLN HBF HBW
        go_wp2_with (first
          | (go_at_call 24; (with_reducible refine C6.out.mono ?_); rintro e w7 ⟨rfl, hr, hf⟩; have B7 : Hid (Below w.heap.size w w7) := Below.trans B6.out (hf.below B6.out.size (fun k hk => by have := HQ.out; omega)); have R7 := Lib.hid hr; clear hr hf)
          | (go_at_call 15; (with_reducible refine (HTO.out _).mono ?_); rintro e w8 ⟨rfl, hx⟩; have B8 : Hid (Below w.heap.size w w8) := Below.trans B7.out (Below.mono hx B7.out.size); have R8 := Lib.hid (R7.out.stay hx); clear hx)
          | (go_at_call 30; (with_reducible refine (C7.out _ R8.out).mono ?_); rintro e w9 ⟨rfl, rfl⟩)
          | (go_at_call 26; (with_reducible refine (C8.out _ R8.out).mono ?_); rintro e w9 ⟨rfl, hr, hf⟩; have B9 : Hid (Below w.heap.size w w9) := Below.trans B8.out (hf.below B8.out.size (fun k hk => by have := HQ.out; omega)); have R9 := Lib.hid hr; clear hr hf)
          | (go_at_call 28; (with_reducible refine (C9.out _ R9.out).mono ?_); rintro e w10 ⟨rfl, hr, hf⟩; have B10 : Hid (Below w.heap.size w w10) := Below.trans B9.out (hf.below B9.out.size (fun k hk => by have := HQ.out; omega)); clear hr hf))
        try go_ret
        exact hD.out _ _ ⟨rfl, B10.out⟩
set_option maxRecDepth 100000 in
theorem law_packForms {H : Type} {enc : TypeId × Value → H} (W : World) (base : Nat) (args : Array Value) (ds : List (DataW H)) (p : List MemPlace)
    (hval : ∀ (j : Nat) t v, Try.f8.params[j]? = some t → args[j]? = some v → Value.okWide Try.prog W .any base t v)
    (hA : DataW.TrodAll enc Try.prog W 0 (fun _ => true) true Try.f8.params.toList args.toList ds p) :
    Calls Try.prog 8 args W fun e W' => e = .returned (.bool true) ∧ Below W.heap.size W W' := by
  rw [Try.params8] at hA hval
  obtain ⟨v0, vs0, d0, ds0, p0, q0, hargs, rfl, rfl, h0, r0⟩ := trodAll_cons hA
  obtain ⟨v1, vs1, d1, ds1, p1, q1, rfl, rfl, rfl, h1, r1⟩ := trodAll_cons r0
  obtain ⟨v2, vs2, d2, ds2, p2, q2, rfl, rfl, rfl, h2, r2⟩ := trodAll_cons r1
  obtain ⟨rfl, rfl, rfl⟩ := trodAll_nil r2
  obtain rfl : args = #[v0, v1, v2] := by cases args; simp_all
  obtain ⟨a0, rfl, rfl, rfl, w0⟩ := open_int Try.underlying27 (hval 0 27 v0 rfl rfl) h0
  obtain ⟨a1, rfl, rfl, rfl, w1⟩ := open_int Try.underlying27 (hval 1 27 v1 rfl rfl) h1
  obtain ⟨a2, rfl, rfl, rfl, w2⟩ := open_int Try.underlying3 (hval 2 3 v2 rfl rfl) h2
  exact walk_packForms a0 a1 a2 W (bounds_u64 w0) (bounds_u64 w1)

end Go.Proofs.Ytfpelhjiaabglaa
