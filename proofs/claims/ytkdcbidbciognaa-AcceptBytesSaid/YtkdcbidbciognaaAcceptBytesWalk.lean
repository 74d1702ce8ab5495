/-
  The walk of the law AcceptBytes.
-/
import Derived.Test.YtkdcbidbciognaaAcceptRisesWalk
import Derived.Test.YtkdcbidbciognaaAccLoad
namespace Go.Proofs.Ytkdcbidbciognaa
set_option linter.unusedVariables false
set_option linter.unusedSimpArgs false
open Go.RowKit Go.ChangeShapes Go.WideShapes

/-- two acceptors that know the same -/
def BI (w wr : World) (a b : Nat) : Prop := ∃ v, AAt wr a v ∧ AAt wr b v ∧ AOk v ∧ v.n = 4 ∧ Below w.heap.size w wr ∧ w.heap.size ≤ a ∧ w.heap.size ≤ b ∧ a ≠ b
theorem BI.drewN {w wr : World} {a b N : Nat} (h : BI w wr a b) : BI w (wr.drewN N) a b := by
  obtain ⟨v, h1, h2, h3, h4, h5, h6⟩ := h
  have hx : Ext wr (wr.drewN N) := (Ext.refl _).drewN
  exact ⟨v, h1.stay hx, h2.stay hx, h3, h4, Below.trans h5 (Below.mono hx h5.size), h6⟩

set_option maxRecDepth 8000 in
set_option maxHeartbeats 64000000 in
theorem walk_acceptBytes (A0 : Option Addr) (xs : List Op13) (cap0 : Nat) (at9 : Int) (w : World) (hc0 : xs.length ≤ cap0) (hn : xs.length ≤ 9223372036854775807) (hS : So13 w A0 xs) :
    Calls Try.prog 10 #[.slice A0 xs.length cap0, .int .i64 at9] w fun e w' => e = .returned (.bool true) ∧ Below w.heap.size w w' := by
  refine hide_post fun D hD => ?_
  have CN : Hid (∀ V, Calls Try.prog 26 #[.int .i64 4] V fun e w' => ∃ a, e = .returned (.tuple #[.pointer (some ⟨a, 0, none⟩), .int .i64 0]) ∧ AAt w' a ⟨4, 1, upTo 4, 0, 0, 0, 0, false, 0, []⟩ ∧ Ext V w' ∧ V.heap.size ≤ a) := fun V => new_yes 4 V (by decide) (by decide)
  have HTO : Hid (∀ V, Calls Try.prog 31 #[] V fun e w' => e = .returned (.bool true) ∧ Ext V w') := told13
  have HS := Lib.hid hS
  obtain ⟨nn, hnn⟩ : ∃ n, n = xs.length := ⟨_, rfl⟩
  rw [← hnn] at hn ⊢
  have HN := Lib.hid hnn
  clear hS hnn hc0
  have ARMS : True := trivial
  by_cases g0 : (40 : Int) < (nn : Int)
  · go_enter Try.func10, Try.ntmps10
    go_wp2_with (first
      | (go_at_call 26; (with_reducible refine (CN.out w1).mono ?_); rintro e w2 ⟨b, rfl, hA, hx, hba⟩; have X2 : Hid (Ext w w2) := Ext.trans X1.out hx; clear hA hx hba)
      | (go_at_call 26; (with_reducible refine (CN.out w).mono ?_); rintro e w1 ⟨a, rfl, hA, hx, hba⟩; have X1 := Lib.hid hx; clear hA hx hba)
      | (go_at_call 31; (with_reducible refine (HTO.out _).mono ?_); rintro e wt ⟨rfl, hx⟩; have KT : Hid (Below w.heap.size w wt) := Ext.trans X2.out hx; clear hx))
    try go_ret
    exact hD.out _ _ ⟨rfl, KT.out⟩
  have hnn1 : wrap64 ((nn : Int) + 1) = (nn : Int) + 1 := by unfold wrap64; omega
  have hu1 : IntKind.u64.wrap ((nn : Int) + 1) = (nn : Int) + 1 := by
    have := wrap_u64_int (nn + 1) (by omega)
    push_cast at this
    exact this
  obtain ⟨u0, u1⟩ := umod_bd at9 ((nn : Int) + 1) (by omega) (by omega)
  have hnz : ¬ ((nn : Int) + 1 = 0) := by omega
  go_enter Try.func10, Try.ntmps10
  go_wp2_with (first
    | (go_at_call 26; (with_reducible refine (CN.out w1).mono ?_); rintro e w2 ⟨b, rfl, hA, hx, hba⟩; have B1 := Lib.hid hA; have A1' := Lib.hid (A1.out.stay hx); have X2 : Hid (Ext w w2) := Ext.trans X1.out hx; have HBB : Hid (w1.heap.size ≤ b) := hba; clear hA hx hba)
    | (go_at_call 26; (with_reducible refine (CN.out w).mono ?_); rintro e w1 ⟨a, rfl, hA, hx, hba⟩; have A1 := Lib.hid hA; have X1 := Lib.hid hx; have HBA : Hid (w.heap.size ≤ a) := hba; clear hA hx hba))
  have HI0 : Hid (BI w w2 a b) := ⟨_, A1'.out, B1.out, ⟨by decide, by decide, by decide, by decide, by decide, fun _ => ⟨rfl, rfl, rfl, rfl⟩, fun h => by cases h⟩, rfl, X2.out, HBA.out, Nat.le_trans X1.out.size HBB.out, fun e => by have h1 := A1.out.lt; have h2 := HBB.out; omega⟩
  clear u0 u1
  go_loopw [7, 10] (fun bp i wr => ∃ (j b : Nat), j ≤ nn ∧ i = .int .i64 j ∧ bp = .pointer (some ⟨b, 0, none⟩) ∧ Hid (BI w wr a b)) (fun _ i _ => nn - (intOf i).toNat)
  case atStart => exact ⟨0, b, Nat.zero_le _, rfl, rfl, HI0⟩
  case round =>
    obtain ⟨j, b, hj, rfl, rfl, HI⟩ := hrel
    obtain ⟨kk, hkk⟩ : ∃ kk, kk = wrap64 ((IntKind.u64.wrap at9).tmod ((nn : Int) + 1)) := ⟨_, rfl⟩
    by_cases hlt : j < nn
    · obtain ⟨x, hx⟩ : ∃ x, xs[j]? = some x := ⟨xs[j]'(by have := HN.out; omega), List.getElem?_eq_getElem _⟩
      obtain ⟨v, hA, hB, hok, hvn, hbw, hba, hbb, hne⟩ := HI.out
      have hslw : Sl i64 w x.A x.l := by
        obtain ⟨b5, o5, e5, c5, h5, r5⟩ := HS.out j x hx
        exact h5
      obtain ⟨bl, o, rfl, hcells, hsl, hxok⟩ := (HS.out.stay hbw) j x hx
      obtain ⟨kind, ep0, br, bn, ep, OA, ocap, ol, veto⟩ := x
      obtain ⟨hb1, hb2, hb3, hb4, hcap, hcap9⟩ := hxok
      simp only at hcap hcap9 hsl hslw hvn
      obtain ⟨nl, hnl⟩ : ∃ nl, nl = ol.length := ⟨_, rfl⟩
      have q0 := hcells 0 (by decide)
      have q1 := hcells 1 (by decide)
      have q2 := hcells 2 (by decide)
      have q3 := hcells 3 (by decide)
      have q4 := hcells 4 (by decide)
      have q5 := hcells 5 (by decide)
      have q6 := hcells 6 (by decide)
      simp [Op13.vals] at q0 q1 q2 q3 q4 q5 q6
      rw [← hnl] at q5
      have KOO : Hid (Blk (wr.alloc (.cells #[.int .i64 kind, .int .i64 ep0, .int .i64 br, .int .i64 bn, .int .i64 ep, .slice OA nl ocap, .bool veto] 59)) wr.heap.size 59 #[.int .i64 kind, .int .i64 ep0, .int .i64 br, .int .i64 bn, .int .i64 ep, .slice OA nl ocap, .bool veto]) := Blk.new _ _ _
      have o0 := KOO.out.cell 0
      have o1 := KOO.out.cell 1
      have o2 := KOO.out.cell 2
      have o3 := KOO.out.cell 3
      have o4 := KOO.out.cell 4
      have o5 := KOO.out.cell 5
      have o6 := KOO.out.cell 6
      simp at o0 o1 o2 o3 o4 o5 o6
      have KO : Hid (Below w.heap.size w (wr.alloc (.cells #[.int .i64 kind, .int .i64 ep0, .int .i64 br, .int .i64 bn, .int .i64 ep, .slice OA nl ocap, .bool veto] 59))) := Below.trans hbw (Below.mono (ext_al _ _) hbw.size)
      have HAO : Hid (AAt (wr.alloc (.cells #[.int .i64 kind, .int .i64 ep0, .int .i64 br, .int .i64 bn, .int .i64 ep, .slice OA nl ocap, .bool veto] 59)) a v) := hA.stay (ext_al _ _)
      have HBO : Hid (AAt (wr.alloc (.cells #[.int .i64 kind, .int .i64 ep0, .int .i64 br, .int .i64 bn, .int .i64 ep, .slice OA nl ocap, .bool veto] 59)) b v) := hB.stay (ext_al _ _)
      have HOK := Lib.hid hok
      have HVN := Lib.hid hvn
      have BA : Hid (w.heap.size ≤ a) := hba
      have BB' : Hid (w.heap.size ≤ b) := hbb
      have NE' : Hid (a ≠ b) := hne
      have HSLV : Hid (∀ V, Below w.heap.size w V → Sl i64 V OA ol) := fun V hV => hslw.stay hV
      have HNAa := Lib.hid (sl_na hslw hba)
      have HSW := Lib.hid hslw
      have HNL := Lib.hid hnl
      have HCAP : Hid (ol.length ≤ ocap) := hcap
      have hj1 : (j : Int) < (nn : Int) := by omega
      have hj0 : (0 : Int) ≤ (j : Int) := by omega
      clear hcells hsl hslw hA hB hok hvn hbw hba hbb hne hx hnl hcap HI hb1 hb2 hb3 hb4
      by_cases g2 : (8 : Int) < (nl : Int)
      · go_wp2_with (go_at_call 31; (with_reducible refine (HTO.out _).mono ?_); rintro e wt ⟨rfl, hx⟩; have KT : Hid (Below w.heap.size w wt) := Below.trans KO.out (Below.mono hx KO.out.size); clear hx)
        try go_ret
        exact hD.out _ _ ⟨rfl, KT.out⟩
      have HNL8 : Hid (ol.length ≤ 8) := by (show _ ≤ _); have := HNL.out; omega
      by_cases hjk : (j : Int) = kk
      · have hjd : ((j : Int) == wrap64 ((IntKind.u64.wrap at9).tmod ((nn : Int) + 1))) = true := beq_iff_eq.2 (by rw [← hkk]; exact hjk)
        clear hjk hkk
        obtain ⟨SB, hSB⟩ : ∃ SB, SB = bytesA v := ⟨_, rfl⟩
        have CBY : Hid (Calls Try.prog 37 #[.pointer (some ⟨b, 0, none⟩)] (wr.alloc (.cells #[.int .i64 kind, .int .i64 ep0, .int .i64 br, .int .i64 bn, .int .i64 ep, .slice OA nl ocap, .bool veto] 59)) fun e w' => ∃ A c, e = .returned (.slice A SB.length c) ∧ Sl u8 w' A SB ∧ Ext (wr.alloc (.cells #[.int .i64 kind, .int .i64 ep0, .int .i64 br, .int .i64 bn, .int .i64 ep, .slice OA nl ocap, .bool veto] 59)) w') := by rw [hSB]; exact bytesA_any b v _ HBO.out HOK.out
        have CLD : Hid (∀ V A c, Sl u8 V A SB → Calls Try.prog 42 #[.int .i64 4, .slice A SB.length c] V fun e w' => ∃ a, e = .returned (.tuple #[.pointer (some ⟨a, 0, none⟩), .int .i64 0]) ∧ AAt w' a v ∧ Ext V w' ∧ V.heap.size ≤ a) := fun V A c h => by rw [hSB] at h ⊢; exact load_any 4 v A c V HOK.out HVN.out h
        clear hSB
        go_upto_region 19 with (first
          | (go_at_call 37; (with_reducible refine CBY.out.mono ?_); rintro e w4 ⟨A4, c4, rfl, hs, hx⟩; have S4 := Lib.hid hs; have X4 := Lib.hid hx; clear hs hx)
          | (go_at_call 42; (with_reducible refine (CLD.out _ _ _ S4.out).mono ?_); rintro e W0 ⟨bb, rfl, hA, hx, hba⟩; have B0 := Lib.hid hA; have X5 := Lib.hid hx; have HB5 : Hid (w4.heap.size ≤ bb) := hba; clear hA hx hba))
        have X0 : Hid (Ext (wr.alloc (.cells #[.int .i64 kind, .int .i64 ep0, .int .i64 br, .int .i64 bn, .int .i64 ep, .slice OA nl ocap, .bool veto] 59)) W0) := Ext.trans X4.out X5.out
        have A0 := Lib.hid (HAO.out.stay X0.out)
        have KO0 := Lib.hid (KOO.out.stay X0.out)
        have NE : Hid (a ≠ bb) := fun e => by have h1 := HAO.out.lt; have h2 := HB5.out; have h3 := X4.out.size; omega
        have BB : Hid (w.heap.size ≤ bb) := Nat.le_trans KO.out.size (Nat.le_trans X4.out.size HB5.out)
        have KW : Hid (Below w.heap.size w W0) := Below.trans KO.out (Below.mono X0.out KO.out.size)
        have HNAb := Lib.hid (sl_na HSW.out BB.out)
        have HNO : Hid (¬ wr.heap.size = a ∧ ¬ wr.heap.size = bb) := ⟨fun e => by obtain ⟨_, _, _, _, h3, _⟩ := A0.out; have hb := KO0.out; rw [show wr.heap.size = a from e] at hb; exact Blk.apart hb h3 (by decide) rfl, fun e => by obtain ⟨_, _, _, _, h3, _⟩ := B0.out; have hb := KO0.out; rw [show wr.heap.size = bb from e] at hb; exact Blk.apart hb h3 (by decide) rfl⟩
        clear o0 o1 o2 o3 o4 o5 o6 q0 q1 q2 q3 q4 q5 q6
        have HOKc := HOK
        have z0 := KO0.out.cell 0
        have z1 := KO0.out.cell 1
        have z2 := KO0.out.cell 2
        have z3 := KO0.out.cell 3
        have z4 := KO0.out.cell 4
        have z5 := KO0.out.cell 5
        have z6 := KO0.out.cell 6
        simp at z0 z1 z2 z3 z4 z5 z6
        by_cases k0 : kind = 0
        · subst k0
          have CPa : Hid (Calls Try.prog 27 #[.pointer (some ⟨a, 0, none⟩), .int .i64 ep0, .agg #[.int .i64 br, .int .i64 bn]] W0 fun e w' => ∃ (R : AV) (A : Option Addr) (c : Nat), e = .returned (.tuple #[.agg #[.int .i64 R.pr, .int .i64 R.pn, .int .i64 R.ar, .int .i64 R.an, .bool R.has, .int .i64 R.vep, .slice A R.vns.length c], .int .i64 (prepE v ep0 br bn)]) ∧ AAt w' a (prepV v ep0 br bn) ∧ Frm (oneA a) W0 w') := (prep_any a v ep0 br bn W0 A0.out HOK.out).mono fun e w' ⟨A, c, h1, _, h2, h3⟩ => ⟨prepR v ep0 br bn, A, c, h1, h2, h3⟩
          have CPb : Hid (∀ V, AAt V bb v → Calls Try.prog 27 #[.pointer (some ⟨bb, 0, none⟩), .int .i64 ep0, .agg #[.int .i64 br, .int .i64 bn]] V fun e w' => ∃ (R : AV) (A : Option Addr) (c : Nat), e = .returned (.tuple #[.agg #[.int .i64 R.pr, .int .i64 R.pn, .int .i64 R.ar, .int .i64 R.an, .bool R.has, .int .i64 R.vep, .slice A R.vns.length c], .int .i64 (prepE v ep0 br bn)]) ∧ AAt w' bb (prepV v ep0 br bn) ∧ Frm (oneA bb) V w') := fun V h => (prep_any bb v ep0 br bn V h HOK.out).mono fun e w' ⟨A, c, h1, _, h2, h3⟩ => ⟨prepR v ep0 br bn, A, c, h1, h2, h3⟩
          have HOKn := Lib.hid (HOK.out.prep ep0 br bn)
          have HVNn : Hid ((prepV v ep0 br bn).n = 4) := by (show _ = _); unfold prepV; split <;> exact HVN.out
          generalize prepE v ep0 br bn = pe at *
          generalize prepV v ep0 br bn = vp at *
          go_wp2_with (first
            | (go_at_call 27; (with_reducible refine (CPb.out _ B1.out).mono ?_); rintro e w2 ⟨R, A7, c7, rfl, hA, hf⟩; have B2 := Lib.hid hA; have F2 := Lib.hid hf; clear hA hf)
            | (go_at_call 27; (with_reducible refine CPa.out.mono ?_); rintro e w1 ⟨R, A7, c7, rfl, hA, hf⟩; have A1 := Lib.hid hA; have F1 := Lib.hid hf; have B1 := Lib.hid (B0.out.other A0.out hf (Ne.symm NE.out)); have KO1 := Lib.hid (KO0.out.frm hf (HNO.out).1); have y0 := KO1.out.cell 0; have y1 := KO1.out.cell 1; have y2 := KO1.out.cell 2; have y3 := KO1.out.cell 3; have y4 := KO1.out.cell 4; have y5 := KO1.out.cell 5; have y6 := KO1.out.cell 6; simp at y0 y1 y2 y3 y4 y5 y6; clear hA hf))
          have HE : BI w w2 a bb := ⟨vp, A1.out.other B1.out F2.out NE.out, B2.out, HOKn.out, HVNn.out, Frm.step (Frm.step KW.out F1.out KW.out.size (fun k hk => by rw [hk]; exact BA.out)) F2.out (Nat.le_trans KW.out.size F1.out.size) (fun k hk => by rw [hk]; exact BB.out), BA.out, BB.out, NE.out⟩
          go_roundw
          case rel => exact ⟨j + 1, bb, by omega, by go_num, rfl, by first | exact HE | exact HE.drewN⟩
          case measure => simp [intOf]; omega
        · by_cases k1 : kind = 1
          · subst k1
            have Ca : Hid (∀ V, AAt V a v → Below w.heap.size w V → Calls Try.prog 32 #[.pointer (some ⟨a, 0, none⟩), .agg #[.int .i64 ep, .slice OA nl ocap], .agg #[.int .i64 br, .int .i64 bn], .bool veto] V fun e w' => e = .returned (.int .i64 (accE v ep ol br bn veto)) ∧ AAt w' a (accV v ep ol br bn veto) ∧ Frm (oneA a) V w') := fun V h hb => by rw [HNL.out]; exact acc_any a v ep br bn OA ocap ol veto V h HOK.out (by have := HNL8.out; omega) HCAP.out (HSLV.out _ hb) HNAa.out
            have Cb : Hid (∀ V, AAt V bb v → Below w.heap.size w V → Calls Try.prog 32 #[.pointer (some ⟨bb, 0, none⟩), .agg #[.int .i64 ep, .slice OA nl ocap], .agg #[.int .i64 br, .int .i64 bn], .bool veto] V fun e w' => e = .returned (.int .i64 (accE v ep ol br bn veto)) ∧ AAt w' bb (accV v ep ol br bn veto) ∧ Frm (oneA bb) V w') := fun V h hb => by rw [HNL.out]; exact acc_any bb v ep br bn OA ocap ol veto V h HOK.out (by have := HNL8.out; omega) HCAP.out (HSLV.out _ hb) HNAb.out
            have HOKn := Lib.hid (HOK.out.acc ep ol br bn veto)
            have HVNn : Hid ((accV v ep ol br bn veto).n = 4) := by (show _ = _); unfold accV; split <;> exact HVN.out
            generalize accE v ep ol br bn veto = pe at *
            generalize accV v ep ol br bn veto = vp at *
            go_wp2_with fail
            have E0 : Hid (Frm (fun k => k = a ∨ k = bb) W0 W0.drew) := (Frm.refl _ _).drew
            have y2 : ∀ V, Frm (fun k => k = a ∨ k = bb) W0 V → V.cell? ⟨wr.heap.size, 2, none⟩ = some (.int .i64 br) := fun V h => (KO0.out.frm h (fun e => by rcases e with e | e; exact HNO.out.1 e; exact HNO.out.2 e)).cell 2
            have y3 : ∀ V, Frm (fun k => k = a ∨ k = bb) W0 V → V.cell? ⟨wr.heap.size, 3, none⟩ = some (.int .i64 bn) := fun V h => (KO0.out.frm h (fun e => by rcases e with e | e; exact HNO.out.1 e; exact HNO.out.2 e)).cell 3
            have y4 : ∀ V, Frm (fun k => k = a ∨ k = bb) W0 V → V.cell? ⟨wr.heap.size, 4, none⟩ = some (.int .i64 ep) := fun V h => (KO0.out.frm h (fun e => by rcases e with e | e; exact HNO.out.1 e; exact HNO.out.2 e)).cell 4
            have y5 : ∀ V, Frm (fun k => k = a ∨ k = bb) W0 V → V.cell? ⟨wr.heap.size, 5, none⟩ = some (.slice OA nl ocap) := fun V h => (KO0.out.frm h (fun e => by rcases e with e | e; exact HNO.out.1 e; exact HNO.out.2 e)).cell 5
            have y6 : ∀ V, Frm (fun k => k = a ∨ k = bb) W0 V → V.cell? ⟨wr.heap.size, 6, none⟩ = some (.bool veto) := fun V h => (KO0.out.frm h (fun e => by rcases e with e | e; exact HNO.out.1 e; exact HNO.out.2 e)).cell 6
            clear z0 z1 z2 z3 z4 z5 z6
            refine rz_begin ((fun k => k = a ∨ k = bb)) [] (by kernel_rfl) ?_
            refine rz_take [7, 15, 16, 17] (i := 0) (v := ?_) rfl (by kernel_rfl) (by kernel_rfl) (by kernel_rfl) (by kernel_rfl) (by kernel_rfl) (by kernel_rfl) (fun _ _ _ h => h) (by rfl) ?_ ?_
            rotate_left
            · intro W hW; have hW0 := Frm.tr E0.out hW; clear hW; go_simp <;> with_reducible rfl
            try simp only [Act.put, List.setIfInBounds_toArray, List.set_cons_zero, List.set_cons_succ]
            refine rz_take [2, 7, 15, 16, 17] (i := 1) (v := ?_) rfl (by kernel_rfl) (by kernel_rfl) (by kernel_rfl) (by kernel_rfl) (by kernel_rfl) (by kernel_rfl) (fun _ _ _ h => h) (by rfl) ?_ ?_
            rotate_left
            · intro W hW; have hW0 := Frm.tr E0.out hW; clear hW; go_simp <;> with_reducible rfl
            try simp only [Act.put, List.setIfInBounds_toArray, List.set_cons_zero, List.set_cons_succ]
            refine rz_take [7, 15, 16, 17] (i := 2) (v := ?_) rfl (by kernel_rfl) (by kernel_rfl) (by kernel_rfl) (by kernel_rfl) (by kernel_rfl) (by kernel_rfl) (fun _ _ _ h => h) (by rfl) ?_ ?_
            rotate_left
            · intro W hW; have hW0 := Frm.tr E0.out hW; clear hW; go_simp <;> with_reducible rfl
            try simp only [Act.put, List.setIfInBounds_toArray, List.set_cons_zero, List.set_cons_succ]
            refine rz_take [4, 7, 15, 16, 17] (i := 3) (v := ?_) rfl (by kernel_rfl) (by kernel_rfl) (by kernel_rfl) (by kernel_rfl) (by kernel_rfl) (by kernel_rfl) (fun _ _ _ h => h) (by rfl) ?_ ?_
            rotate_left
            · intro W hW; have hW0 := Frm.tr E0.out hW; clear hW; go_simp <;> with_reducible rfl
            try simp only [Act.put, List.setIfInBounds_toArray, List.set_cons_zero, List.set_cons_succ]
            refine rz_take [7, 15, 16, 17] (i := 4) (v := ?_) rfl (by kernel_rfl) (by kernel_rfl) (by kernel_rfl) (by kernel_rfl) (by kernel_rfl) (by kernel_rfl) (fun _ _ _ h => h) (by rfl) ?_ ?_
            rotate_left
            · intro W hW; have hW0 := Frm.tr E0.out hW; clear hW; go_simp <;> with_reducible rfl
            try simp only [Act.put, List.setIfInBounds_toArray, List.set_cons_zero, List.set_cons_succ]
            refine rz_take [6, 7, 15, 16, 17] (i := 5) (v := ?_) rfl (by kernel_rfl) (by kernel_rfl) (by kernel_rfl) (by kernel_rfl) (by kernel_rfl) (by kernel_rfl) (fun _ _ _ h => h) (by rfl) ?_ ?_
            rotate_left
            · intro W hW; have hW0 := Frm.tr E0.out hW; clear hW; go_simp <;> with_reducible rfl
            try simp only [Act.put, List.setIfInBounds_toArray, List.set_cons_zero, List.set_cons_succ]
            refine rz_take [7, 15, 16, 17] (i := 6) (v := ?_) rfl (by kernel_rfl) (by kernel_rfl) (by kernel_rfl) (by kernel_rfl) (by kernel_rfl) (by kernel_rfl) (fun _ _ _ h => h) (by rfl) ?_ ?_
            rotate_left
            · intro W hW; have hW0 := Frm.tr E0.out hW; clear hW; go_simp <;> with_reducible rfl
            try simp only [Act.put, List.setIfInBounds_toArray, List.set_cons_zero, List.set_cons_succ]
            refine rz_take [15, 16, 17] (i := 8) (v := ?_) rfl (by kernel_rfl) (by kernel_rfl) (by kernel_rfl) (by kernel_rfl) (by kernel_rfl) (by kernel_rfl) (fun _ _ _ h => h) (by rfl) ?_ ?_
            rotate_left
            · intro W hW; have hW0 := Frm.tr E0.out hW; clear hW; go_simp <;> with_reducible rfl
            try simp only [Act.put, List.setIfInBounds_toArray, List.set_cons_zero, List.set_cons_succ]
            refine rz_take [10, 15, 16, 17] (i := 9) (v := ?_) rfl (by kernel_rfl) (by kernel_rfl) (by kernel_rfl) (by kernel_rfl) (by kernel_rfl) (by kernel_rfl) (fun _ _ _ h => h) (by rfl) ?_ ?_
            rotate_left
            · intro W hW; have hW0 := Frm.tr E0.out hW; clear hW; go_simp <;> with_reducible rfl
            try simp only [Act.put, List.setIfInBounds_toArray, List.set_cons_zero, List.set_cons_succ]
            refine rz_take [15, 16, 17] (i := 10) (v := ?_) rfl (by kernel_rfl) (by kernel_rfl) (by kernel_rfl) (by kernel_rfl) (by kernel_rfl) (by kernel_rfl) (fun _ _ _ h => h) (by rfl) ?_ ?_
            rotate_left
            · intro W hW; have hW0 := Frm.tr E0.out hW; clear hW; go_simp <;> with_reducible rfl
            try simp only [Act.put, List.setIfInBounds_toArray, List.set_cons_zero, List.set_cons_succ]
            refine rz_take [12, 15, 16, 17] (i := 11) (v := ?_) rfl (by kernel_rfl) (by kernel_rfl) (by kernel_rfl) (by kernel_rfl) (by kernel_rfl) (by kernel_rfl) (fun _ _ _ h => h) (by rfl) ?_ ?_
            rotate_left
            · intro W hW; have hW0 := Frm.tr E0.out hW; clear hW; go_simp <;> with_reducible rfl
            try simp only [Act.put, List.setIfInBounds_toArray, List.set_cons_zero, List.set_cons_succ]
            refine rz_take [15, 16, 17] (i := 12) (v := ?_) rfl (by kernel_rfl) (by kernel_rfl) (by kernel_rfl) (by kernel_rfl) (by kernel_rfl) (by kernel_rfl) (fun _ _ _ h => h) (by rfl) ?_ ?_
            rotate_left
            · intro W hW; have hW0 := Frm.tr E0.out hW; clear hW; go_simp <;> with_reducible rfl
            try simp only [Act.put, List.setIfInBounds_toArray, List.set_cons_zero, List.set_cons_succ]
            refine rz_take [14, 15, 16, 17] (i := 13) (v := ?_) rfl (by kernel_rfl) (by kernel_rfl) (by kernel_rfl) (by kernel_rfl) (by kernel_rfl) (by kernel_rfl) (fun _ _ _ h => h) (by rfl) ?_ ?_
            rotate_left
            · intro W hW; have hW0 := Frm.tr E0.out hW; clear hW; go_simp <;> with_reducible rfl
            try simp only [Act.put, List.setIfInBounds_toArray, List.set_cons_zero, List.set_cons_succ]
            refine rz_take [15, 16, 17] (i := 14) (v := ?_) rfl (by kernel_rfl) (by kernel_rfl) (by kernel_rfl) (by kernel_rfl) (by kernel_rfl) (by kernel_rfl) (fun _ _ _ h => h) (by rfl) ?_ ?_
            rotate_left
            · intro W hW; have hW0 := Frm.tr E0.out hW; clear hW; go_simp <;> with_reducible rfl
            try simp only [Act.put, List.setIfInBounds_toArray, List.set_cons_zero, List.set_cons_succ]
            refine rz_call (i := 7) rfl (by kernel_rfl) (by rfl) (fun K hK => ?_)
            go_simp
            go_at_call 32
            with_reducible refine (Ca.out _ (A0.out.stay (Ext.drewR (Ext.refl _))) (KW.out.drew)).mono ?_
            rintro e w1 ⟨rfl, hA, hf⟩
            refine hK _ _ (hf.mono (fun k hk => Or.inl hk)) ?_; clear hK K
            have A1 := Lib.hid hA
            have F1 : Hid (Frm (oneA a) W0 w1) := Frm.tr ((Frm.refl _ _).drew) hf
            have B1 := Lib.hid (B0.out.other A0.out F1.out (Ne.symm NE.out))
            have W1 : Hid (Below w.heap.size w w1) := Frm.step KW.out F1.out KW.out.size (fun k hk => by rw [hk]; exact BA.out)
            have E1 : Hid (Frm (fun k => k = a ∨ k = bb) W0 w1) := F1.out.mono (fun k hk => Or.inl hk)
            clear hA hf
            try simp only [Act.put, List.setIfInBounds_toArray, List.set_cons_zero, List.set_cons_succ]
            refine rz_call (i := 15) rfl (by kernel_rfl) (by rfl) (fun K hK => ?_)
            go_simp
            go_at_call 32
            with_reducible refine (Cb.out _ B1.out W1.out).mono ?_
            rintro e w2 ⟨rfl, hA, hf⟩
            refine hK _ _ (hf.mono (fun k hk => Or.inr hk)) ?_; clear hK K
            have B2 := Lib.hid hA
            have F2 := Lib.hid hf
            have E2 : Hid (Frm (fun k => k = a ∨ k = bb) W0 w2) := Frm.tr E1.out (hf.mono (fun k hk => Or.inr hk))
            clear hA hf
            try simp only [Act.put, List.setIfInBounds_toArray, List.set_cons_zero, List.set_cons_succ]
            refine rz_take [17] (i := 16) (v := ?_) rfl (by kernel_rfl) (by kernel_rfl) (by kernel_rfl) (by kernel_rfl) (by kernel_rfl) (by kernel_rfl) (fun _ _ _ h => h) (by rfl) ?_ ?_
            rotate_left
            · intro W hW; have hW0 := Frm.tr E2.out hW; clear hW; go_simp <;> with_reducible rfl
            try simp only [Act.put, List.setIfInBounds_toArray, List.set_cons_zero, List.set_cons_succ]
            refine rz_take [] (i := 17) (v := ?_) rfl (by kernel_rfl) (by kernel_rfl) (by kernel_rfl) (by kernel_rfl) (by kernel_rfl) (by kernel_rfl) (fun _ _ _ h => h) (by rfl) ?_ ?_
            rotate_left
            · intro W hW; have hW0 := Frm.tr E2.out hW; clear hW; go_simp <;> with_reducible rfl
            try simp only [Act.put, List.setIfInBounds_toArray, List.set_cons_zero, List.set_cons_succ]
            refine rz_done (by kernel_rfl) ?_ _
            have HE : BI w w2 a bb := ⟨vp, A1.out.other B1.out F2.out NE.out, B2.out, HOKn.out, HVNn.out, Frm.step W1.out F2.out W1.out.size (fun k hk => by rw [hk]; exact BB.out), BA.out, BB.out, NE.out⟩
            clear y2 y3 y4 y5 y6
            go_wp2_with fail
            go_roundw
            case rel => exact ⟨j + 1, bb, by omega, by go_num, rfl, by first | exact HE | exact HE.drewN⟩
            case measure => simp [intOf]; omega
          · have Ca : Hid (∀ V, AAt V a v → Below w.heap.size w V → Calls Try.prog 28 #[.pointer (some ⟨a, 0, none⟩), .agg #[.int .i64 ep, .slice OA nl ocap]] V fun e w' => e = .returned (.int .i64 (learnE v ep ol)) ∧ AAt w' a (learnV v ep ol) ∧ Frm (oneA a) V w') := fun V h hb => by rw [HNL.out]; exact learn_any a v ep OA ocap ol V h HOK.out (by have := HNL8.out; omega) HCAP.out (HSLV.out _ hb) HNAa.out
            have Cb : Hid (∀ V, AAt V bb v → Below w.heap.size w V → Calls Try.prog 28 #[.pointer (some ⟨bb, 0, none⟩), .agg #[.int .i64 ep, .slice OA nl ocap]] V fun e w' => e = .returned (.int .i64 (learnE v ep ol)) ∧ AAt w' bb (learnV v ep ol) ∧ Frm (oneA bb) V w') := fun V h hb => by rw [HNL.out]; exact learn_any bb v ep OA ocap ol V h HOK.out (by have := HNL8.out; omega) HCAP.out (HSLV.out _ hb) HNAb.out
            have HOKn := Lib.hid (HOK.out.learn ep ol)
            have HVNn : Hid ((learnV v ep ol).n = 4) := by (show _ = _); unfold learnV; split <;> exact HVN.out
            generalize learnE v ep ol = pe at *
            generalize learnV v ep ol = vp at *
            go_wp2_with fail
            have E0 : Hid (Frm (fun k => k = a ∨ k = bb) W0 W0.drew) := (Frm.refl _ _).drew
            have y2 : ∀ V, Frm (fun k => k = a ∨ k = bb) W0 V → V.cell? ⟨wr.heap.size, 2, none⟩ = some (.int .i64 br) := fun V h => (KO0.out.frm h (fun e => by rcases e with e | e; exact HNO.out.1 e; exact HNO.out.2 e)).cell 2
            have y3 : ∀ V, Frm (fun k => k = a ∨ k = bb) W0 V → V.cell? ⟨wr.heap.size, 3, none⟩ = some (.int .i64 bn) := fun V h => (KO0.out.frm h (fun e => by rcases e with e | e; exact HNO.out.1 e; exact HNO.out.2 e)).cell 3
            have y4 : ∀ V, Frm (fun k => k = a ∨ k = bb) W0 V → V.cell? ⟨wr.heap.size, 4, none⟩ = some (.int .i64 ep) := fun V h => (KO0.out.frm h (fun e => by rcases e with e | e; exact HNO.out.1 e; exact HNO.out.2 e)).cell 4
            have y5 : ∀ V, Frm (fun k => k = a ∨ k = bb) W0 V → V.cell? ⟨wr.heap.size, 5, none⟩ = some (.slice OA nl ocap) := fun V h => (KO0.out.frm h (fun e => by rcases e with e | e; exact HNO.out.1 e; exact HNO.out.2 e)).cell 5
            have y6 : ∀ V, Frm (fun k => k = a ∨ k = bb) W0 V → V.cell? ⟨wr.heap.size, 6, none⟩ = some (.bool veto) := fun V h => (KO0.out.frm h (fun e => by rcases e with e | e; exact HNO.out.1 e; exact HNO.out.2 e)).cell 6
            clear z0 z1 z2 z3 z4 z5 z6
            refine rz_begin ((fun k => k = a ∨ k = bb)) [] (by kernel_rfl) ?_
            refine rz_take [3, 7, 8, 9] (i := 0) (v := ?_) rfl (by kernel_rfl) (by kernel_rfl) (by kernel_rfl) (by kernel_rfl) (by kernel_rfl) (by kernel_rfl) (fun _ _ _ h => h) (by rfl) ?_ ?_
            rotate_left
            · intro W hW; have hW0 := Frm.tr E0.out hW; clear hW; go_simp <;> with_reducible rfl
            try simp only [Act.put, List.setIfInBounds_toArray, List.set_cons_zero, List.set_cons_succ]
            refine rz_take [2, 3, 7, 8, 9] (i := 1) (v := ?_) rfl (by kernel_rfl) (by kernel_rfl) (by kernel_rfl) (by kernel_rfl) (by kernel_rfl) (by kernel_rfl) (fun _ _ _ h => h) (by rfl) ?_ ?_
            rotate_left
            · intro W hW; have hW0 := Frm.tr E0.out hW; clear hW; go_simp <;> with_reducible rfl
            try simp only [Act.put, List.setIfInBounds_toArray, List.set_cons_zero, List.set_cons_succ]
            refine rz_take [3, 7, 8, 9] (i := 2) (v := ?_) rfl (by kernel_rfl) (by kernel_rfl) (by kernel_rfl) (by kernel_rfl) (by kernel_rfl) (by kernel_rfl) (fun _ _ _ h => h) (by rfl) ?_ ?_
            rotate_left
            · intro W hW; have hW0 := Frm.tr E0.out hW; clear hW; go_simp <;> with_reducible rfl
            try simp only [Act.put, List.setIfInBounds_toArray, List.set_cons_zero, List.set_cons_succ]
            refine rz_take [7, 8, 9] (i := 4) (v := ?_) rfl (by kernel_rfl) (by kernel_rfl) (by kernel_rfl) (by kernel_rfl) (by kernel_rfl) (by kernel_rfl) (fun _ _ _ h => h) (by rfl) ?_ ?_
            rotate_left
            · intro W hW; have hW0 := Frm.tr E0.out hW; clear hW; go_simp <;> with_reducible rfl
            try simp only [Act.put, List.setIfInBounds_toArray, List.set_cons_zero, List.set_cons_succ]
            refine rz_take [6, 7, 8, 9] (i := 5) (v := ?_) rfl (by kernel_rfl) (by kernel_rfl) (by kernel_rfl) (by kernel_rfl) (by kernel_rfl) (by kernel_rfl) (fun _ _ _ h => h) (by rfl) ?_ ?_
            rotate_left
            · intro W hW; have hW0 := Frm.tr E0.out hW; clear hW; go_simp <;> with_reducible rfl
            try simp only [Act.put, List.setIfInBounds_toArray, List.set_cons_zero, List.set_cons_succ]
            refine rz_take [7, 8, 9] (i := 6) (v := ?_) rfl (by kernel_rfl) (by kernel_rfl) (by kernel_rfl) (by kernel_rfl) (by kernel_rfl) (by kernel_rfl) (fun _ _ _ h => h) (by rfl) ?_ ?_
            rotate_left
            · intro W hW; have hW0 := Frm.tr E0.out hW; clear hW; go_simp <;> with_reducible rfl
            try simp only [Act.put, List.setIfInBounds_toArray, List.set_cons_zero, List.set_cons_succ]
            refine rz_call (i := 3) rfl (by kernel_rfl) (by rfl) (fun K hK => ?_)
            go_simp
            go_at_call 28
            with_reducible refine (Ca.out _ (A0.out.stay (Ext.drewR (Ext.refl _))) (KW.out.drew)).mono ?_
            rintro e w1 ⟨rfl, hA, hf⟩
            refine hK _ _ (hf.mono (fun k hk => Or.inl hk)) ?_; clear hK K
            have A1 := Lib.hid hA
            have F1 : Hid (Frm (oneA a) W0 w1) := Frm.tr ((Frm.refl _ _).drew) hf
            have B1 := Lib.hid (B0.out.other A0.out F1.out (Ne.symm NE.out))
            have W1 : Hid (Below w.heap.size w w1) := Frm.step KW.out F1.out KW.out.size (fun k hk => by rw [hk]; exact BA.out)
            have E1 : Hid (Frm (fun k => k = a ∨ k = bb) W0 w1) := F1.out.mono (fun k hk => Or.inl hk)
            clear hA hf
            try simp only [Act.put, List.setIfInBounds_toArray, List.set_cons_zero, List.set_cons_succ]
            refine rz_call (i := 7) rfl (by kernel_rfl) (by rfl) (fun K hK => ?_)
            go_simp
            go_at_call 28
            with_reducible refine (Cb.out _ B1.out W1.out).mono ?_
            rintro e w2 ⟨rfl, hA, hf⟩
            refine hK _ _ (hf.mono (fun k hk => Or.inr hk)) ?_; clear hK K
            have B2 := Lib.hid hA
            have F2 := Lib.hid hf
            have E2 : Hid (Frm (fun k => k = a ∨ k = bb) W0 w2) := Frm.tr E1.out (hf.mono (fun k hk => Or.inr hk))
            clear hA hf
            try simp only [Act.put, List.setIfInBounds_toArray, List.set_cons_zero, List.set_cons_succ]
            refine rz_take [9] (i := 8) (v := ?_) rfl (by kernel_rfl) (by kernel_rfl) (by kernel_rfl) (by kernel_rfl) (by kernel_rfl) (by kernel_rfl) (fun _ _ _ h => h) (by rfl) ?_ ?_
            rotate_left
            · intro W hW; have hW0 := Frm.tr E2.out hW; clear hW; go_simp <;> with_reducible rfl
            try simp only [Act.put, List.setIfInBounds_toArray, List.set_cons_zero, List.set_cons_succ]
            refine rz_take [] (i := 9) (v := ?_) rfl (by kernel_rfl) (by kernel_rfl) (by kernel_rfl) (by kernel_rfl) (by kernel_rfl) (by kernel_rfl) (fun _ _ _ h => h) (by rfl) ?_ ?_
            rotate_left
            · intro W hW; have hW0 := Frm.tr E2.out hW; clear hW; go_simp <;> with_reducible rfl
            try simp only [Act.put, List.setIfInBounds_toArray, List.set_cons_zero, List.set_cons_succ]
            refine rz_done (by kernel_rfl) ?_ _
            have HE : BI w w2 a bb := ⟨vp, A1.out.other B1.out F2.out NE.out, B2.out, HOKn.out, HVNn.out, Frm.step W1.out F2.out W1.out.size (fun k hk => by rw [hk]; exact BB.out), BA.out, BB.out, NE.out⟩
            clear y2 y3 y4 y5 y6
            go_wp2_with fail
            go_roundw
            case rel => exact ⟨j + 1, bb, by omega, by go_num, rfl, by first | exact HE | exact HE.drewN⟩
            case measure => simp [intOf]; omega
      · have hjk' : ¬ (j : Int) = wrap64 ((IntKind.u64.wrap at9).tmod ((nn : Int) + 1)) := by rw [← hkk]; exact hjk
        clear hjk hkk
        go_upto_region 19 with fail
        obtain ⟨W0, hW0⟩ : ∃ W0, W0 = (wr.alloc (.cells #[.int .i64 kind, .int .i64 ep0, .int .i64 br, .int .i64 bn, .int .i64 ep, .slice OA nl ocap, .bool veto] 59)) := ⟨_, rfl⟩
        have A0 : Hid (AAt W0 a v) := by (show AAt _ _ _); rw [hW0]; exact HAO.out
        have B0 : Hid (AAt W0 b v) := by (show AAt _ _ _); rw [hW0]; exact HBO.out
        have KO0 : Hid (Blk W0 wr.heap.size 59 #[.int .i64 kind, .int .i64 ep0, .int .i64 br, .int .i64 bn, .int .i64 ep, .slice OA nl ocap, .bool veto]) := by (show Blk _ _ _ _); rw [hW0]; exact KOO.out
        have KW : Hid (Below w.heap.size w W0) := by (show Below _ _ _); rw [hW0]; exact KO.out
        have NE := NE'
        have BB := BB'
        have HNAb := Lib.hid (sl_na HSW.out BB.out)
        have HNO : Hid (¬ wr.heap.size = a ∧ ¬ wr.heap.size = b) := ⟨fun e => by obtain ⟨_, _, _, _, h3, _⟩ := A0.out; have hb := KO0.out; rw [show wr.heap.size = a from e] at hb; exact Blk.apart hb h3 (by decide) rfl, fun e => by obtain ⟨_, _, _, _, h3, _⟩ := B0.out; have hb := KO0.out; rw [show wr.heap.size = b from e] at hb; exact Blk.apart hb h3 (by decide) rfl⟩
        try rw [← hW0]
        clear hW0 o0 o1 o2 o3 o4 o5 o6 q0 q1 q2 q3 q4 q5 q6
        have HOKc := HOK
        have z0 := KO0.out.cell 0
        have z1 := KO0.out.cell 1
        have z2 := KO0.out.cell 2
        have z3 := KO0.out.cell 3
        have z4 := KO0.out.cell 4
        have z5 := KO0.out.cell 5
        have z6 := KO0.out.cell 6
        simp at z0 z1 z2 z3 z4 z5 z6
        by_cases k0 : kind = 0
        · subst k0
          have CPa : Hid (Calls Try.prog 27 #[.pointer (some ⟨a, 0, none⟩), .int .i64 ep0, .agg #[.int .i64 br, .int .i64 bn]] W0 fun e w' => ∃ (R : AV) (A : Option Addr) (c : Nat), e = .returned (.tuple #[.agg #[.int .i64 R.pr, .int .i64 R.pn, .int .i64 R.ar, .int .i64 R.an, .bool R.has, .int .i64 R.vep, .slice A R.vns.length c], .int .i64 (prepE v ep0 br bn)]) ∧ AAt w' a (prepV v ep0 br bn) ∧ Frm (oneA a) W0 w') := (prep_any a v ep0 br bn W0 A0.out HOK.out).mono fun e w' ⟨A, c, h1, _, h2, h3⟩ => ⟨prepR v ep0 br bn, A, c, h1, h2, h3⟩
          have CPb : Hid (∀ V, AAt V b v → Calls Try.prog 27 #[.pointer (some ⟨b, 0, none⟩), .int .i64 ep0, .agg #[.int .i64 br, .int .i64 bn]] V fun e w' => ∃ (R : AV) (A : Option Addr) (c : Nat), e = .returned (.tuple #[.agg #[.int .i64 R.pr, .int .i64 R.pn, .int .i64 R.ar, .int .i64 R.an, .bool R.has, .int .i64 R.vep, .slice A R.vns.length c], .int .i64 (prepE v ep0 br bn)]) ∧ AAt w' b (prepV v ep0 br bn) ∧ Frm (oneA b) V w') := fun V h => (prep_any b v ep0 br bn V h HOK.out).mono fun e w' ⟨A, c, h1, _, h2, h3⟩ => ⟨prepR v ep0 br bn, A, c, h1, h2, h3⟩
          have HOKn := Lib.hid (HOK.out.prep ep0 br bn)
          have HVNn : Hid ((prepV v ep0 br bn).n = 4) := by (show _ = _); unfold prepV; split <;> exact HVN.out
          generalize prepE v ep0 br bn = pe at *
          generalize prepV v ep0 br bn = vp at *
          go_wp2_with (first
            | (go_at_call 27; (with_reducible refine (CPb.out _ B1.out).mono ?_); rintro e w2 ⟨R, A7, c7, rfl, hA, hf⟩; have B2 := Lib.hid hA; have F2 := Lib.hid hf; clear hA hf)
            | (go_at_call 27; (with_reducible refine CPa.out.mono ?_); rintro e w1 ⟨R, A7, c7, rfl, hA, hf⟩; have A1 := Lib.hid hA; have F1 := Lib.hid hf; have B1 := Lib.hid (B0.out.other A0.out hf (Ne.symm NE.out)); have KO1 := Lib.hid (KO0.out.frm hf (HNO.out).1); have y0 := KO1.out.cell 0; have y1 := KO1.out.cell 1; have y2 := KO1.out.cell 2; have y3 := KO1.out.cell 3; have y4 := KO1.out.cell 4; have y5 := KO1.out.cell 5; have y6 := KO1.out.cell 6; simp at y0 y1 y2 y3 y4 y5 y6; clear hA hf))
          have HE : BI w w2 a b := ⟨vp, A1.out.other B1.out F2.out NE.out, B2.out, HOKn.out, HVNn.out, Frm.step (Frm.step KW.out F1.out KW.out.size (fun k hk => by rw [hk]; exact BA.out)) F2.out (Nat.le_trans KW.out.size F1.out.size) (fun k hk => by rw [hk]; exact BB.out), BA.out, BB.out, NE.out⟩
          go_roundw
          case rel => exact ⟨j + 1, b, by omega, by go_num, rfl, by first | exact HE | exact HE.drewN⟩
          case measure => simp [intOf]; omega
        · by_cases k1 : kind = 1
          · subst k1
            have Ca : Hid (∀ V, AAt V a v → Below w.heap.size w V → Calls Try.prog 32 #[.pointer (some ⟨a, 0, none⟩), .agg #[.int .i64 ep, .slice OA nl ocap], .agg #[.int .i64 br, .int .i64 bn], .bool veto] V fun e w' => e = .returned (.int .i64 (accE v ep ol br bn veto)) ∧ AAt w' a (accV v ep ol br bn veto) ∧ Frm (oneA a) V w') := fun V h hb => by rw [HNL.out]; exact acc_any a v ep br bn OA ocap ol veto V h HOK.out (by have := HNL8.out; omega) HCAP.out (HSLV.out _ hb) HNAa.out
            have Cb : Hid (∀ V, AAt V b v → Below w.heap.size w V → Calls Try.prog 32 #[.pointer (some ⟨b, 0, none⟩), .agg #[.int .i64 ep, .slice OA nl ocap], .agg #[.int .i64 br, .int .i64 bn], .bool veto] V fun e w' => e = .returned (.int .i64 (accE v ep ol br bn veto)) ∧ AAt w' b (accV v ep ol br bn veto) ∧ Frm (oneA b) V w') := fun V h hb => by rw [HNL.out]; exact acc_any b v ep br bn OA ocap ol veto V h HOK.out (by have := HNL8.out; omega) HCAP.out (HSLV.out _ hb) HNAb.out
            have HOKn := Lib.hid (HOK.out.acc ep ol br bn veto)
            have HVNn : Hid ((accV v ep ol br bn veto).n = 4) := by (show _ = _); unfold accV; split <;> exact HVN.out
            generalize accE v ep ol br bn veto = pe at *
            generalize accV v ep ol br bn veto = vp at *
            go_wp2_with fail
            have E0 : Hid (Frm (fun k => k = a ∨ k = b) W0 W0.drew) := (Frm.refl _ _).drew
            have y2 : ∀ V, Frm (fun k => k = a ∨ k = b) W0 V → V.cell? ⟨wr.heap.size, 2, none⟩ = some (.int .i64 br) := fun V h => (KO0.out.frm h (fun e => by rcases e with e | e; exact HNO.out.1 e; exact HNO.out.2 e)).cell 2
            have y3 : ∀ V, Frm (fun k => k = a ∨ k = b) W0 V → V.cell? ⟨wr.heap.size, 3, none⟩ = some (.int .i64 bn) := fun V h => (KO0.out.frm h (fun e => by rcases e with e | e; exact HNO.out.1 e; exact HNO.out.2 e)).cell 3
            have y4 : ∀ V, Frm (fun k => k = a ∨ k = b) W0 V → V.cell? ⟨wr.heap.size, 4, none⟩ = some (.int .i64 ep) := fun V h => (KO0.out.frm h (fun e => by rcases e with e | e; exact HNO.out.1 e; exact HNO.out.2 e)).cell 4
            have y5 : ∀ V, Frm (fun k => k = a ∨ k = b) W0 V → V.cell? ⟨wr.heap.size, 5, none⟩ = some (.slice OA nl ocap) := fun V h => (KO0.out.frm h (fun e => by rcases e with e | e; exact HNO.out.1 e; exact HNO.out.2 e)).cell 5
            have y6 : ∀ V, Frm (fun k => k = a ∨ k = b) W0 V → V.cell? ⟨wr.heap.size, 6, none⟩ = some (.bool veto) := fun V h => (KO0.out.frm h (fun e => by rcases e with e | e; exact HNO.out.1 e; exact HNO.out.2 e)).cell 6
            clear z0 z1 z2 z3 z4 z5 z6
            refine rz_begin ((fun k => k = a ∨ k = b)) [] (by kernel_rfl) ?_
            refine rz_take [7, 15, 16, 17] (i := 0) (v := ?_) rfl (by kernel_rfl) (by kernel_rfl) (by kernel_rfl) (by kernel_rfl) (by kernel_rfl) (by kernel_rfl) (fun _ _ _ h => h) (by rfl) ?_ ?_
            rotate_left
            · intro W hW; have hW0 := Frm.tr E0.out hW; clear hW; go_simp <;> with_reducible rfl
            try simp only [Act.put, List.setIfInBounds_toArray, List.set_cons_zero, List.set_cons_succ]
            refine rz_take [2, 7, 15, 16, 17] (i := 1) (v := ?_) rfl (by kernel_rfl) (by kernel_rfl) (by kernel_rfl) (by kernel_rfl) (by kernel_rfl) (by kernel_rfl) (fun _ _ _ h => h) (by rfl) ?_ ?_
            rotate_left
            · intro W hW; have hW0 := Frm.tr E0.out hW; clear hW; go_simp <;> with_reducible rfl
            try simp only [Act.put, List.setIfInBounds_toArray, List.set_cons_zero, List.set_cons_succ]
            refine rz_take [7, 15, 16, 17] (i := 2) (v := ?_) rfl (by kernel_rfl) (by kernel_rfl) (by kernel_rfl) (by kernel_rfl) (by kernel_rfl) (by kernel_rfl) (fun _ _ _ h => h) (by rfl) ?_ ?_
            rotate_left
            · intro W hW; have hW0 := Frm.tr E0.out hW; clear hW; go_simp <;> with_reducible rfl
            try simp only [Act.put, List.setIfInBounds_toArray, List.set_cons_zero, List.set_cons_succ]
            refine rz_take [4, 7, 15, 16, 17] (i := 3) (v := ?_) rfl (by kernel_rfl) (by kernel_rfl) (by kernel_rfl) (by kernel_rfl) (by kernel_rfl) (by kernel_rfl) (fun _ _ _ h => h) (by rfl) ?_ ?_
            rotate_left
            · intro W hW; have hW0 := Frm.tr E0.out hW; clear hW; go_simp <;> with_reducible rfl
            try simp only [Act.put, List.setIfInBounds_toArray, List.set_cons_zero, List.set_cons_succ]
            refine rz_take [7, 15, 16, 17] (i := 4) (v := ?_) rfl (by kernel_rfl) (by kernel_rfl) (by kernel_rfl) (by kernel_rfl) (by kernel_rfl) (by kernel_rfl) (fun _ _ _ h => h) (by rfl) ?_ ?_
            rotate_left
            · intro W hW; have hW0 := Frm.tr E0.out hW; clear hW; go_simp <;> with_reducible rfl
            try simp only [Act.put, List.setIfInBounds_toArray, List.set_cons_zero, List.set_cons_succ]
            refine rz_take [6, 7, 15, 16, 17] (i := 5) (v := ?_) rfl (by kernel_rfl) (by kernel_rfl) (by kernel_rfl) (by kernel_rfl) (by kernel_rfl) (by kernel_rfl) (fun _ _ _ h => h) (by rfl) ?_ ?_
            rotate_left
            · intro W hW; have hW0 := Frm.tr E0.out hW; clear hW; go_simp <;> with_reducible rfl
            try simp only [Act.put, List.setIfInBounds_toArray, List.set_cons_zero, List.set_cons_succ]
            refine rz_take [7, 15, 16, 17] (i := 6) (v := ?_) rfl (by kernel_rfl) (by kernel_rfl) (by kernel_rfl) (by kernel_rfl) (by kernel_rfl) (by kernel_rfl) (fun _ _ _ h => h) (by rfl) ?_ ?_
            rotate_left
            · intro W hW; have hW0 := Frm.tr E0.out hW; clear hW; go_simp <;> with_reducible rfl
            try simp only [Act.put, List.setIfInBounds_toArray, List.set_cons_zero, List.set_cons_succ]
            refine rz_take [15, 16, 17] (i := 8) (v := ?_) rfl (by kernel_rfl) (by kernel_rfl) (by kernel_rfl) (by kernel_rfl) (by kernel_rfl) (by kernel_rfl) (fun _ _ _ h => h) (by rfl) ?_ ?_
            rotate_left
            · intro W hW; have hW0 := Frm.tr E0.out hW; clear hW; go_simp <;> with_reducible rfl
            try simp only [Act.put, List.setIfInBounds_toArray, List.set_cons_zero, List.set_cons_succ]
            refine rz_take [10, 15, 16, 17] (i := 9) (v := ?_) rfl (by kernel_rfl) (by kernel_rfl) (by kernel_rfl) (by kernel_rfl) (by kernel_rfl) (by kernel_rfl) (fun _ _ _ h => h) (by rfl) ?_ ?_
            rotate_left
            · intro W hW; have hW0 := Frm.tr E0.out hW; clear hW; go_simp <;> with_reducible rfl
            try simp only [Act.put, List.setIfInBounds_toArray, List.set_cons_zero, List.set_cons_succ]
            refine rz_take [15, 16, 17] (i := 10) (v := ?_) rfl (by kernel_rfl) (by kernel_rfl) (by kernel_rfl) (by kernel_rfl) (by kernel_rfl) (by kernel_rfl) (fun _ _ _ h => h) (by rfl) ?_ ?_
            rotate_left
            · intro W hW; have hW0 := Frm.tr E0.out hW; clear hW; go_simp <;> with_reducible rfl
            try simp only [Act.put, List.setIfInBounds_toArray, List.set_cons_zero, List.set_cons_succ]
            refine rz_take [12, 15, 16, 17] (i := 11) (v := ?_) rfl (by kernel_rfl) (by kernel_rfl) (by kernel_rfl) (by kernel_rfl) (by kernel_rfl) (by kernel_rfl) (fun _ _ _ h => h) (by rfl) ?_ ?_
            rotate_left
            · intro W hW; have hW0 := Frm.tr E0.out hW; clear hW; go_simp <;> with_reducible rfl
            try simp only [Act.put, List.setIfInBounds_toArray, List.set_cons_zero, List.set_cons_succ]
            refine rz_take [15, 16, 17] (i := 12) (v := ?_) rfl (by kernel_rfl) (by kernel_rfl) (by kernel_rfl) (by kernel_rfl) (by kernel_rfl) (by kernel_rfl) (fun _ _ _ h => h) (by rfl) ?_ ?_
            rotate_left
            · intro W hW; have hW0 := Frm.tr E0.out hW; clear hW; go_simp <;> with_reducible rfl
            try simp only [Act.put, List.setIfInBounds_toArray, List.set_cons_zero, List.set_cons_succ]
            refine rz_take [14, 15, 16, 17] (i := 13) (v := ?_) rfl (by kernel_rfl) (by kernel_rfl) (by kernel_rfl) (by kernel_rfl) (by kernel_rfl) (by kernel_rfl) (fun _ _ _ h => h) (by rfl) ?_ ?_
            rotate_left
            · intro W hW; have hW0 := Frm.tr E0.out hW; clear hW; go_simp <;> with_reducible rfl
            try simp only [Act.put, List.setIfInBounds_toArray, List.set_cons_zero, List.set_cons_succ]
            refine rz_take [15, 16, 17] (i := 14) (v := ?_) rfl (by kernel_rfl) (by kernel_rfl) (by kernel_rfl) (by kernel_rfl) (by kernel_rfl) (by kernel_rfl) (fun _ _ _ h => h) (by rfl) ?_ ?_
            rotate_left
            · intro W hW; have hW0 := Frm.tr E0.out hW; clear hW; go_simp <;> with_reducible rfl
            try simp only [Act.put, List.setIfInBounds_toArray, List.set_cons_zero, List.set_cons_succ]
            refine rz_call (i := 7) rfl (by kernel_rfl) (by rfl) (fun K hK => ?_)
            go_simp
            go_at_call 32
            with_reducible refine (Ca.out _ (A0.out.stay (Ext.drewR (Ext.refl _))) (KW.out.drew)).mono ?_
            rintro e w1 ⟨rfl, hA, hf⟩
            refine hK _ _ (hf.mono (fun k hk => Or.inl hk)) ?_; clear hK K
            have A1 := Lib.hid hA
            have F1 : Hid (Frm (oneA a) W0 w1) := Frm.tr ((Frm.refl _ _).drew) hf
            have B1 := Lib.hid (B0.out.other A0.out F1.out (Ne.symm NE.out))
            have W1 : Hid (Below w.heap.size w w1) := Frm.step KW.out F1.out KW.out.size (fun k hk => by rw [hk]; exact BA.out)
            have E1 : Hid (Frm (fun k => k = a ∨ k = b) W0 w1) := F1.out.mono (fun k hk => Or.inl hk)
            clear hA hf
            try simp only [Act.put, List.setIfInBounds_toArray, List.set_cons_zero, List.set_cons_succ]
            refine rz_call (i := 15) rfl (by kernel_rfl) (by rfl) (fun K hK => ?_)
            go_simp
            go_at_call 32
            with_reducible refine (Cb.out _ B1.out W1.out).mono ?_
            rintro e w2 ⟨rfl, hA, hf⟩
            refine hK _ _ (hf.mono (fun k hk => Or.inr hk)) ?_; clear hK K
            have B2 := Lib.hid hA
            have F2 := Lib.hid hf
            have E2 : Hid (Frm (fun k => k = a ∨ k = b) W0 w2) := Frm.tr E1.out (hf.mono (fun k hk => Or.inr hk))
            clear hA hf
            try simp only [Act.put, List.setIfInBounds_toArray, List.set_cons_zero, List.set_cons_succ]
            refine rz_take [17] (i := 16) (v := ?_) rfl (by kernel_rfl) (by kernel_rfl) (by kernel_rfl) (by kernel_rfl) (by kernel_rfl) (by kernel_rfl) (fun _ _ _ h => h) (by rfl) ?_ ?_
            rotate_left
            · intro W hW; have hW0 := Frm.tr E2.out hW; clear hW; go_simp <;> with_reducible rfl
            try simp only [Act.put, List.setIfInBounds_toArray, List.set_cons_zero, List.set_cons_succ]
            refine rz_take [] (i := 17) (v := ?_) rfl (by kernel_rfl) (by kernel_rfl) (by kernel_rfl) (by kernel_rfl) (by kernel_rfl) (by kernel_rfl) (fun _ _ _ h => h) (by rfl) ?_ ?_
            rotate_left
            · intro W hW; have hW0 := Frm.tr E2.out hW; clear hW; go_simp <;> with_reducible rfl
            try simp only [Act.put, List.setIfInBounds_toArray, List.set_cons_zero, List.set_cons_succ]
            refine rz_done (by kernel_rfl) ?_ _
            have HE : BI w w2 a b := ⟨vp, A1.out.other B1.out F2.out NE.out, B2.out, HOKn.out, HVNn.out, Frm.step W1.out F2.out W1.out.size (fun k hk => by rw [hk]; exact BB.out), BA.out, BB.out, NE.out⟩
            clear y2 y3 y4 y5 y6
            go_wp2_with fail
            go_roundw
            case rel => exact ⟨j + 1, b, by omega, by go_num, rfl, by first | exact HE | exact HE.drewN⟩
            case measure => simp [intOf]; omega
          · have Ca : Hid (∀ V, AAt V a v → Below w.heap.size w V → Calls Try.prog 28 #[.pointer (some ⟨a, 0, none⟩), .agg #[.int .i64 ep, .slice OA nl ocap]] V fun e w' => e = .returned (.int .i64 (learnE v ep ol)) ∧ AAt w' a (learnV v ep ol) ∧ Frm (oneA a) V w') := fun V h hb => by rw [HNL.out]; exact learn_any a v ep OA ocap ol V h HOK.out (by have := HNL8.out; omega) HCAP.out (HSLV.out _ hb) HNAa.out
            have Cb : Hid (∀ V, AAt V b v → Below w.heap.size w V → Calls Try.prog 28 #[.pointer (some ⟨b, 0, none⟩), .agg #[.int .i64 ep, .slice OA nl ocap]] V fun e w' => e = .returned (.int .i64 (learnE v ep ol)) ∧ AAt w' b (learnV v ep ol) ∧ Frm (oneA b) V w') := fun V h hb => by rw [HNL.out]; exact learn_any b v ep OA ocap ol V h HOK.out (by have := HNL8.out; omega) HCAP.out (HSLV.out _ hb) HNAb.out
            have HOKn := Lib.hid (HOK.out.learn ep ol)
            have HVNn : Hid ((learnV v ep ol).n = 4) := by (show _ = _); unfold learnV; split <;> exact HVN.out
            generalize learnE v ep ol = pe at *
            generalize learnV v ep ol = vp at *
            go_wp2_with fail
            have E0 : Hid (Frm (fun k => k = a ∨ k = b) W0 W0.drew) := (Frm.refl _ _).drew
            have y2 : ∀ V, Frm (fun k => k = a ∨ k = b) W0 V → V.cell? ⟨wr.heap.size, 2, none⟩ = some (.int .i64 br) := fun V h => (KO0.out.frm h (fun e => by rcases e with e | e; exact HNO.out.1 e; exact HNO.out.2 e)).cell 2
            have y3 : ∀ V, Frm (fun k => k = a ∨ k = b) W0 V → V.cell? ⟨wr.heap.size, 3, none⟩ = some (.int .i64 bn) := fun V h => (KO0.out.frm h (fun e => by rcases e with e | e; exact HNO.out.1 e; exact HNO.out.2 e)).cell 3
            have y4 : ∀ V, Frm (fun k => k = a ∨ k = b) W0 V → V.cell? ⟨wr.heap.size, 4, none⟩ = some (.int .i64 ep) := fun V h => (KO0.out.frm h (fun e => by rcases e with e | e; exact HNO.out.1 e; exact HNO.out.2 e)).cell 4
            have y5 : ∀ V, Frm (fun k => k = a ∨ k = b) W0 V → V.cell? ⟨wr.heap.size, 5, none⟩ = some (.slice OA nl ocap) := fun V h => (KO0.out.frm h (fun e => by rcases e with e | e; exact HNO.out.1 e; exact HNO.out.2 e)).cell 5
            have y6 : ∀ V, Frm (fun k => k = a ∨ k = b) W0 V → V.cell? ⟨wr.heap.size, 6, none⟩ = some (.bool veto) := fun V h => (KO0.out.frm h (fun e => by rcases e with e | e; exact HNO.out.1 e; exact HNO.out.2 e)).cell 6
            clear z0 z1 z2 z3 z4 z5 z6
            refine rz_begin ((fun k => k = a ∨ k = b)) [] (by kernel_rfl) ?_
            refine rz_take [3, 7, 8, 9] (i := 0) (v := ?_) rfl (by kernel_rfl) (by kernel_rfl) (by kernel_rfl) (by kernel_rfl) (by kernel_rfl) (by kernel_rfl) (fun _ _ _ h => h) (by rfl) ?_ ?_
            rotate_left
            · intro W hW; have hW0 := Frm.tr E0.out hW; clear hW; go_simp <;> with_reducible rfl
            try simp only [Act.put, List.setIfInBounds_toArray, List.set_cons_zero, List.set_cons_succ]
            refine rz_take [2, 3, 7, 8, 9] (i := 1) (v := ?_) rfl (by kernel_rfl) (by kernel_rfl) (by kernel_rfl) (by kernel_rfl) (by kernel_rfl) (by kernel_rfl) (fun _ _ _ h => h) (by rfl) ?_ ?_
            rotate_left
            · intro W hW; have hW0 := Frm.tr E0.out hW; clear hW; go_simp <;> with_reducible rfl
            try simp only [Act.put, List.setIfInBounds_toArray, List.set_cons_zero, List.set_cons_succ]
            refine rz_take [3, 7, 8, 9] (i := 2) (v := ?_) rfl (by kernel_rfl) (by kernel_rfl) (by kernel_rfl) (by kernel_rfl) (by kernel_rfl) (by kernel_rfl) (fun _ _ _ h => h) (by rfl) ?_ ?_
            rotate_left
            · intro W hW; have hW0 := Frm.tr E0.out hW; clear hW; go_simp <;> with_reducible rfl
            try simp only [Act.put, List.setIfInBounds_toArray, List.set_cons_zero, List.set_cons_succ]
            refine rz_take [7, 8, 9] (i := 4) (v := ?_) rfl (by kernel_rfl) (by kernel_rfl) (by kernel_rfl) (by kernel_rfl) (by kernel_rfl) (by kernel_rfl) (fun _ _ _ h => h) (by rfl) ?_ ?_
            rotate_left
            · intro W hW; have hW0 := Frm.tr E0.out hW; clear hW; go_simp <;> with_reducible rfl
            try simp only [Act.put, List.setIfInBounds_toArray, List.set_cons_zero, List.set_cons_succ]
            refine rz_take [6, 7, 8, 9] (i := 5) (v := ?_) rfl (by kernel_rfl) (by kernel_rfl) (by kernel_rfl) (by kernel_rfl) (by kernel_rfl) (by kernel_rfl) (fun _ _ _ h => h) (by rfl) ?_ ?_
            rotate_left
            · intro W hW; have hW0 := Frm.tr E0.out hW; clear hW; go_simp <;> with_reducible rfl
            try simp only [Act.put, List.setIfInBounds_toArray, List.set_cons_zero, List.set_cons_succ]
            refine rz_take [7, 8, 9] (i := 6) (v := ?_) rfl (by kernel_rfl) (by kernel_rfl) (by kernel_rfl) (by kernel_rfl) (by kernel_rfl) (by kernel_rfl) (fun _ _ _ h => h) (by rfl) ?_ ?_
            rotate_left
            · intro W hW; have hW0 := Frm.tr E0.out hW; clear hW; go_simp <;> with_reducible rfl
            try simp only [Act.put, List.setIfInBounds_toArray, List.set_cons_zero, List.set_cons_succ]
            refine rz_call (i := 3) rfl (by kernel_rfl) (by rfl) (fun K hK => ?_)
            go_simp
            go_at_call 28
            with_reducible refine (Ca.out _ (A0.out.stay (Ext.drewR (Ext.refl _))) (KW.out.drew)).mono ?_
            rintro e w1 ⟨rfl, hA, hf⟩
            refine hK _ _ (hf.mono (fun k hk => Or.inl hk)) ?_; clear hK K
            have A1 := Lib.hid hA
            have F1 : Hid (Frm (oneA a) W0 w1) := Frm.tr ((Frm.refl _ _).drew) hf
            have B1 := Lib.hid (B0.out.other A0.out F1.out (Ne.symm NE.out))
            have W1 : Hid (Below w.heap.size w w1) := Frm.step KW.out F1.out KW.out.size (fun k hk => by rw [hk]; exact BA.out)
            have E1 : Hid (Frm (fun k => k = a ∨ k = b) W0 w1) := F1.out.mono (fun k hk => Or.inl hk)
            clear hA hf
            try simp only [Act.put, List.setIfInBounds_toArray, List.set_cons_zero, List.set_cons_succ]
            refine rz_call (i := 7) rfl (by kernel_rfl) (by rfl) (fun K hK => ?_)
            go_simp
            go_at_call 28
            with_reducible refine (Cb.out _ B1.out W1.out).mono ?_
            rintro e w2 ⟨rfl, hA, hf⟩
            refine hK _ _ (hf.mono (fun k hk => Or.inr hk)) ?_; clear hK K
            have B2 := Lib.hid hA
            have F2 := Lib.hid hf
            have E2 : Hid (Frm (fun k => k = a ∨ k = b) W0 w2) := Frm.tr E1.out (hf.mono (fun k hk => Or.inr hk))
            clear hA hf
            try simp only [Act.put, List.setIfInBounds_toArray, List.set_cons_zero, List.set_cons_succ]
            refine rz_take [9] (i := 8) (v := ?_) rfl (by kernel_rfl) (by kernel_rfl) (by kernel_rfl) (by kernel_rfl) (by kernel_rfl) (by kernel_rfl) (fun _ _ _ h => h) (by rfl) ?_ ?_
            rotate_left
            · intro W hW; have hW0 := Frm.tr E2.out hW; clear hW; go_simp <;> with_reducible rfl
            try simp only [Act.put, List.setIfInBounds_toArray, List.set_cons_zero, List.set_cons_succ]
            refine rz_take [] (i := 9) (v := ?_) rfl (by kernel_rfl) (by kernel_rfl) (by kernel_rfl) (by kernel_rfl) (by kernel_rfl) (by kernel_rfl) (fun _ _ _ h => h) (by rfl) ?_ ?_
            rotate_left
            · intro W hW; have hW0 := Frm.tr E2.out hW; clear hW; go_simp <;> with_reducible rfl
            try simp only [Act.put, List.setIfInBounds_toArray, List.set_cons_zero, List.set_cons_succ]
            refine rz_done (by kernel_rfl) ?_ _
            have HE : BI w w2 a b := ⟨vp, A1.out.other B1.out F2.out NE.out, B2.out, HOKn.out, HVNn.out, Frm.step W1.out F2.out W1.out.size (fun k hk => by rw [hk]; exact BB.out), BA.out, BB.out, NE.out⟩
            clear y2 y3 y4 y5 y6
            go_wp2_with fail
            go_roundw
            case rel => exact ⟨j + 1, b, by omega, by go_num, rfl, by first | exact HE | exact HE.drewN⟩
            case measure => simp [intOf]; omega
    · have h3 : ¬ (j : Int) < (nn : Int) := by omega
      obtain ⟨v, hA, hB, hok, hvn, hbw, hba, hbb, hne⟩ := HI.out
      have HOK := Lib.hid hok
      have HA := Lib.hid hA
      have HB := Lib.hid hB
      have HBW := Lib.hid hbw
      have L1 : Hid (v.kns.length ≤ 1000000) := hok.kl
      have L2 : Hid (v.vns.length ≤ 1000000) := hok.vl
      obtain ⟨n, kep, kns, pr, pn, ar, an, has, vep, vns⟩ := v
      simp only at L1 L2
      obtain ⟨SB, hSB⟩ : ∃ SB, SB = bytesA ⟨n, kep, kns, pr, pn, ar, an, has, vep, vns⟩ := ⟨_, rfl⟩
      obtain ⟨ns, hns⟩ : ∃ n, n = SB.length := ⟨_, rfl⟩
      have CBa : Hid (∀ V, Ext wr V → Calls Try.prog 37 #[.pointer (some ⟨a, 0, none⟩)] V fun e w' => ∃ A c, e = .returned (.slice A ns c) ∧ Sl u8 w' A SB ∧ Ext V w') := fun V h => by rw [hns, hSB]; exact bytesA_any a _ V (HA.out.stay h) HOK.out
      have CBb : Hid (∀ V, Ext wr V → Calls Try.prog 37 #[.pointer (some ⟨b, 0, none⟩)] V fun e w' => ∃ A c, e = .returned (.slice A ns c) ∧ Sl u8 w' A SB ∧ Ext V w') := fun V h => by rw [hns, hSB]; exact bytesA_any b _ V (HB.out.stay h) HOK.out
      have CKa : Hid (∀ V, Ext wr V → Calls Try.prog 30 #[.pointer (some ⟨a, 0, none⟩)] V fun e w' => ∃ A c, e = .returned (.agg #[.int .i64 kep, .slice A kns.length c]) ∧ In w' A c kns ∧ Ext V w') := fun V h => known_any a _ V (HA.out.stay h) L1.out
      have CKb : Hid (∀ V, Ext wr V → Calls Try.prog 30 #[.pointer (some ⟨b, 0, none⟩)] V fun e w' => ∃ A c, e = .returned (.agg #[.int .i64 kep, .slice A kns.length c]) ∧ In w' A c kns ∧ Ext V w') := fun V h => known_any b _ V (HB.out.stay h) L1.out
      have VTY : True := trivial
      have CVa : Hid (∀ V, Ext wr V → Calls Try.prog 29 #[.pointer (some ⟨a, 0, none⟩)] V fun e w' => ∃ A c, e = .returned (.agg #[.int .i64 pr, .int .i64 pn, .int .i64 ar, .int .i64 an, .bool has, .int .i64 vep, .slice A vns.length c]) ∧ In w' A c vns ∧ Ext V w') := fun V h => vote_any a _ V (HA.out.stay h) L2.out
      have CVb : Hid (∀ V, Ext wr V → Calls Try.prog 29 #[.pointer (some ⟨b, 0, none⟩)] V fun e w' => ∃ A c, e = .returned (.agg #[.int .i64 pr, .int .i64 pn, .int .i64 ar, .int .i64 an, .bool has, .int .i64 vep, .slice A vns.length c]) ∧ In w' A c vns ∧ Ext V w') := fun V h => vote_any b _ V (HB.out.stay h) L2.out
      have CSC : Hid (∀ V A c A' c', In V A c kns → In V A' c' kns → Calls Try.prog 23 #[.agg #[.int .i64 kep, .slice A kns.length c], .agg #[.int .i64 kep, .slice A' kns.length c']] V fun e w' => e = .returned (.bool true) ∧ Ext V w') := fun V A c A' c' h1 h2 => (sameRef_any kep kep A A' c c' kns kns V (by have := L1.out; omega) (by have := L1.out; omega) h1.sl h2.sl).mono fun e w' ⟨g1, g2⟩ => ⟨by rw [g1]; simp, g2⟩
      have CSV : Hid (∀ V A c A' c', In V A c vns → In V A' c' vns → Calls Try.prog 33 #[.agg #[.int .i64 pr, .int .i64 pn, .int .i64 ar, .int .i64 an, .bool has, .int .i64 vep, .slice A vns.length c], .agg #[.int .i64 pr, .int .i64 pn, .int .i64 ar, .int .i64 an, .bool has, .int .i64 vep, .slice A' vns.length c']] V fun e w' => e = .returned (.bool true) ∧ Ext V w') := fun V A c A' c' h1 h2 => sameVote_eq pr pn ar an has vep A A' c c' vns V L2.out h1.sl h2.sl
      have HCV : Hid (∀ V A c, Sl u8 V A SB → (convert 72 9 (.slice A ns c)).run Try.prog V = .ok (.string (str SB)) V) := fun V A c h => by rw [hns]; exact run_str _ _ 5 A SB c Try.underlying72 Try.underlying5 Try.underlying9 h
      clear hA hB hok hvn hbw hba hbb hne HI hSB hns
      have E0 : Hid (Ext wr wr) := Ext.refl _
      go_wp2_with fail
      refine ext_begin (by kernel_rfl) ?_
      have E0d := Lib.hid (Ext.drewR E0.out)
      refine ext_call (i := 0) rfl (by kernel_rfl) (by rfl) (fun K' hK => ?_)
      go_simp
      (go_at_call 31; (with_reducible refine (HTO.out _).mono ?_); rintro e wa ⟨rfl, hx⟩; refine hK _ _ hx ?_; clear hK)
      have Ewa := Lib.hid (Ext.trans E0d.out hx)
      clear hx
      try simp only [Act.put, List.setIfInBounds_toArray, List.set_cons_zero, List.set_cons_succ]
      refine ext_take (i := 1) (v := ?_) rfl (by kernel_rfl) (by kernel_rfl) (by kernel_rfl) (fun _ _ _ h => h) (by rfl) ?_ ?_
      rotate_left
      · intro W hW; have hW0 := Ext.trans Ewa.out hW; clear hW; go_simp <;> with_reducible rfl
      try simp only [Act.put, List.setIfInBounds_toArray, List.set_cons_zero, List.set_cons_succ]
      refine ext_take (i := 2) (v := ?_) rfl (by kernel_rfl) (by kernel_rfl) (by kernel_rfl) (fun _ _ _ h => h) (by rfl) ?_ ?_
      rotate_left
      · intro W hW; have hW0 := Ext.trans Ewa.out hW; clear hW; go_simp <;> with_reducible rfl
      try simp only [Act.put, List.setIfInBounds_toArray, List.set_cons_zero, List.set_cons_succ]
      refine ext_take (i := 5) (v := ?_) rfl (by kernel_rfl) (by kernel_rfl) (by kernel_rfl) (fun _ _ _ h => h) (by rfl) ?_ ?_
      rotate_left
      · intro W hW; have hW0 := Ext.trans Ewa.out hW; clear hW; go_simp <;> with_reducible rfl
      try simp only [Act.put, List.setIfInBounds_toArray, List.set_cons_zero, List.set_cons_succ]
      refine ext_call (i := 3) rfl (by kernel_rfl) (by rfl) (fun K' hK => ?_)
      go_simp
      (go_at_call 37; (with_reducible refine (CBa.out _ Ewa.out).mono ?_); rintro e wb ⟨A1, c1, rfl, hs, hx⟩; refine hK _ _ hx ?_; clear hK)
      have Ewb := Lib.hid (Ext.trans Ewa.out hx)
      have S1 := Lib.hid hs; clear hs
      clear hx
      try simp only [Act.put, List.setIfInBounds_toArray, List.set_cons_zero, List.set_cons_succ]
      refine ext_take (i := 4) (v := .string (str SB)) rfl (by kernel_rfl) (by kernel_rfl) (by kernel_rfl) (fun _ _ _ h => h) (by rfl) ?_ ?_
      · intro W hW; have hW0 := Ext.trans Ewb.out hW; have hcw := HCV.out W A1 c1 (S1.out.stay hW); clear hW; go_simp; first | done | exact hcw | (rw [hcw])
      try simp only [Act.put, List.setIfInBounds_toArray, List.set_cons_zero, List.set_cons_succ]
      refine ext_call (i := 6) rfl (by kernel_rfl) (by rfl) (fun K' hK => ?_)
      go_simp
      (go_at_call 37; (with_reducible refine (CBb.out _ Ewb.out).mono ?_); rintro e wc ⟨A2, c2, rfl, hs, hx⟩; refine hK _ _ hx ?_; clear hK)
      have Ewc := Lib.hid (Ext.trans Ewb.out hx)
      have S2 := Lib.hid hs; clear hs
      clear hx
      try simp only [Act.put, List.setIfInBounds_toArray, List.set_cons_zero, List.set_cons_succ]
      refine ext_take (i := 7) (v := .string (str SB)) rfl (by kernel_rfl) (by kernel_rfl) (by kernel_rfl) (fun _ _ _ h => h) (by rfl) ?_ ?_
      · intro W hW; have hW0 := Ext.trans Ewc.out hW; have hcw := HCV.out W A2 c2 (S2.out.stay hW); clear hW; go_simp; first | done | exact hcw | (rw [hcw])
      try simp only [Act.put, List.setIfInBounds_toArray, List.set_cons_zero, List.set_cons_succ]
      refine ext_take (i := 8) (v := .bool true) rfl (by kernel_rfl) (by kernel_rfl) (by kernel_rfl) (fun _ _ _ h => h) (by rfl) ?_ ?_
      · intro W hW; have hW0 := Ext.trans Ewc.out hW; clear hW; go_simp; all_goals (first | done | (simp; done))
      try simp only [Act.put, List.setIfInBounds_toArray, List.set_cons_zero, List.set_cons_succ]
      refine ext_take (i := 9) (v := ?_) rfl (by kernel_rfl) (by kernel_rfl) (by kernel_rfl) (fun _ _ _ h => h) (by rfl) ?_ ?_
      rotate_left
      · intro W hW; have hW0 := Ext.trans Ewc.out hW; clear hW; go_simp <;> with_reducible rfl
      try simp only [Act.put, List.setIfInBounds_toArray, List.set_cons_zero, List.set_cons_succ]
      refine ext_take (i := 10) (v := ?_) rfl (by kernel_rfl) (by kernel_rfl) (by kernel_rfl) (fun _ _ _ h => h) (by rfl) ?_ ?_
      rotate_left
      · intro W hW; have hW0 := Ext.trans Ewc.out hW; clear hW; go_simp <;> with_reducible rfl
      try simp only [Act.put, List.setIfInBounds_toArray, List.set_cons_zero, List.set_cons_succ]
      refine ext_take (i := 11) (v := ?_) rfl (by kernel_rfl) (by kernel_rfl) (by kernel_rfl) (fun _ _ _ h => h) (by rfl) ?_ ?_
      rotate_left
      · intro W hW; have hW0 := Ext.trans Ewc.out hW; clear hW; go_simp <;> with_reducible rfl
      try simp only [Act.put, List.setIfInBounds_toArray, List.set_cons_zero, List.set_cons_succ]
      refine ext_take (i := 13) (v := ?_) rfl (by kernel_rfl) (by kernel_rfl) (by kernel_rfl) (fun _ _ _ h => h) (by rfl) ?_ ?_
      rotate_left
      · intro W hW; have hW0 := Ext.trans Ewc.out hW; clear hW; go_simp <;> with_reducible rfl
      try simp only [Act.put, List.setIfInBounds_toArray, List.set_cons_zero, List.set_cons_succ]
      refine ext_call (i := 12) rfl (by kernel_rfl) (by rfl) (fun K' hK => ?_)
      go_simp
      (go_at_call 30; (with_reducible refine (CKa.out _ Ewc.out).mono ?_); rintro e wd ⟨A3, c3, rfl, hs, hx⟩; refine hK _ _ hx ?_; clear hK)
      have Ewd := Lib.hid (Ext.trans Ewc.out hx)
      have S3 := Lib.hid hs; clear hs
      clear hx
      try simp only [Act.put, List.setIfInBounds_toArray, List.set_cons_zero, List.set_cons_succ]
      refine ext_call (i := 14) rfl (by kernel_rfl) (by rfl) (fun K' hK => ?_)
      go_simp
      (go_at_call 30; (with_reducible refine (CKb.out _ Ewd.out).mono ?_); rintro e we_ ⟨A4, c4, rfl, hs, hx⟩; refine hK _ _ hx ?_; clear hK)
      have Ewe_ := Lib.hid (Ext.trans Ewd.out hx)
      have S4 := Lib.hid hs; have S3' := Lib.hid (S3.out.stay hx); clear hs
      clear hx
      try simp only [Act.put, List.setIfInBounds_toArray, List.set_cons_zero, List.set_cons_succ]
      refine ext_call (i := 15) rfl (by kernel_rfl) (by rfl) (fun K' hK => ?_)
      go_simp
      (go_at_call 23; (with_reducible refine (CSC.out _ _ _ _ _ S3'.out S4.out).mono ?_); rintro e wf ⟨rfl, hx⟩; refine hK _ _ hx ?_; clear hK)
      have Ewf := Lib.hid (Ext.trans Ewe_.out hx)
      clear hx
      try simp only [Act.put, List.setIfInBounds_toArray, List.set_cons_zero, List.set_cons_succ]
      refine ext_take (i := 16) (v := ?_) rfl (by kernel_rfl) (by kernel_rfl) (by kernel_rfl) (fun _ _ _ h => h) (by rfl) ?_ ?_
      rotate_left
      · intro W hW; have hW0 := Ext.trans Ewf.out hW; clear hW; go_simp <;> with_reducible rfl
      try simp only [Act.put, List.setIfInBounds_toArray, List.set_cons_zero, List.set_cons_succ]
      refine ext_take (i := 17) (v := ?_) rfl (by kernel_rfl) (by kernel_rfl) (by kernel_rfl) (fun _ _ _ h => h) (by rfl) ?_ ?_
      rotate_left
      · intro W hW; have hW0 := Ext.trans Ewf.out hW; clear hW; go_simp <;> with_reducible rfl
      try simp only [Act.put, List.setIfInBounds_toArray, List.set_cons_zero, List.set_cons_succ]
      refine ext_take (i := 18) (v := ?_) rfl (by kernel_rfl) (by kernel_rfl) (by kernel_rfl) (fun _ _ _ h => h) (by rfl) ?_ ?_
      rotate_left
      · intro W hW; have hW0 := Ext.trans Ewf.out hW; clear hW; go_simp <;> with_reducible rfl
      try simp only [Act.put, List.setIfInBounds_toArray, List.set_cons_zero, List.set_cons_succ]
      refine ext_take (i := 20) (v := ?_) rfl (by kernel_rfl) (by kernel_rfl) (by kernel_rfl) (fun _ _ _ h => h) (by rfl) ?_ ?_
      rotate_left
      · intro W hW; have hW0 := Ext.trans Ewf.out hW; clear hW; go_simp <;> with_reducible rfl
      try simp only [Act.put, List.setIfInBounds_toArray, List.set_cons_zero, List.set_cons_succ]
      refine ext_call (i := 19) rfl (by kernel_rfl) (by rfl) (fun K' hK => ?_)
      go_simp
      (go_at_call 29; (with_reducible refine (CVa.out _ Ewf.out).mono ?_); rintro e wh ⟨A5, c5, rfl, hs, hx⟩; refine hK _ _ hx ?_; clear hK)
      have Ewh := Lib.hid (Ext.trans Ewf.out hx)
      have S5 := Lib.hid hs; clear hs
      clear hx
      try simp only [Act.put, List.setIfInBounds_toArray, List.set_cons_zero, List.set_cons_succ]
      refine ext_call (i := 21) rfl (by kernel_rfl) (by rfl) (fun K' hK => ?_)
      go_simp
      (go_at_call 29; (with_reducible refine (CVb.out _ Ewh.out).mono ?_); rintro e wi ⟨A6, c6, rfl, hs, hx⟩; refine hK _ _ hx ?_; clear hK)
      have Ewi := Lib.hid (Ext.trans Ewh.out hx)
      have S6 := Lib.hid hs; have S5' := Lib.hid (S5.out.stay hx); clear hs
      clear hx
      try simp only [Act.put, List.setIfInBounds_toArray, List.set_cons_zero, List.set_cons_succ]
      refine ext_call (i := 22) rfl (by kernel_rfl) (by rfl) (fun K' hK => ?_)
      go_simp
      (go_at_call 33; (with_reducible refine (CSV.out _ _ _ _ _ S5'.out S6.out).mono ?_); rintro e wg ⟨rfl, hx⟩; refine hK _ _ hx ?_; clear hK)
      have Ewg := Lib.hid (Ext.trans Ewi.out hx)
      clear hx
      try simp only [Act.put, List.setIfInBounds_toArray, List.set_cons_zero, List.set_cons_succ]
      refine ext_take (i := 23) (v := ?_) rfl (by kernel_rfl) (by kernel_rfl) (by kernel_rfl) (fun _ _ _ h => h) (by rfl) ?_ ?_
      rotate_left
      · intro W hW; have hW0 := Ext.trans Ewg.out hW; clear hW; go_simp <;> with_reducible rfl
      try simp only [Act.put, List.setIfInBounds_toArray, List.set_cons_zero, List.set_cons_succ]
      refine ext_take (i := 24) (v := ?_) rfl (by kernel_rfl) (by kernel_rfl) (by kernel_rfl) (fun _ _ _ h => h) (by rfl) ?_ ?_
      rotate_left
      · intro W hW; have hW0 := Ext.trans Ewg.out hW; clear hW; go_simp <;> with_reducible rfl
      try simp only [Act.put, List.setIfInBounds_toArray, List.set_cons_zero, List.set_cons_succ]
      refine wpAnyH_done (by kernel_rfl) ?_ _
      have EX := Lib.hid Ewg.out
      clear E0 E0d
      go_wp2_with fail
      try go_ret
      exact hD.out _ _ ⟨rfl, Below.trans HBW.out (Below.mono EX.out HBW.out.size)⟩

set_option maxRecDepth 100000 in
theorem law_acceptBytes {H : Type} {enc : TypeId × Value → H} (W : World) (base : Nat) (args : Array Value) (ds : List (DataW H)) (p : List MemPlace)
    (hval : ∀ (j : Nat) t v, Try.f10.params[j]? = some t → args[j]? = some v → Value.okWide Try.prog W .any base t v)
    (hA : DataW.TrodAll enc Try.prog W 0 (fun _ => true) true Try.f10.params.toList args.toList ds p) :
    Calls Try.prog 10 args W fun e W' => e = .returned (.bool true) ∧ Below W.heap.size W W' := by
  rw [Try.params10] at hA hval
  obtain ⟨v0, vs0, d0, ds0, p0, q0, hargs, rfl, rfl, h0, r0⟩ := trodAll_cons hA
  obtain ⟨v1, vs1, d1, ds1, p1, q1, rfl, rfl, rfl, h1, r1⟩ := trodAll_cons r0
  obtain ⟨rfl, rfl, rfl⟩ := trodAll_nil r1
  obtain rfl : args = #[v0, v1] := by cases args; simp_all
  obtain ⟨A0, n0, c0, rfl⟩ := okWide_slice Try.underlying57 (hval 0 57 v0 rfl rfl)
  obtain ⟨fuel0, hf0⟩ := h0
  obtain ⟨B0, l0, e0, hcs0, x0, y0, z0⟩ := open_ops13 hf0
  simp only [Value.cells, List.cons.injEq, Value.slice.injEq, and_true] at hcs0
  obtain ⟨rfl, rfl, rfl⟩ := hcs0
  obtain ⟨a1, rfl, rfl, rfl, w1⟩ := open_int Try.underlying3 (hval 1 3 v1 rfl rfl) h1
  exact walk_acceptBytes A0 l0 c0 a1 W x0 (Nat.le_trans x0 y0) z0

end Go.Proofs.Ytkdcbidbciognaa
