/-
  The walk of the law AcceptRises.
-/
import Derived.Test.YtkdcbidbciognaaSameVote
import Derived.Test.YtkdcbidbciognaaTold13
import Derived.Test.YtkdcbidbciognaaOpenOps13
import Derived.Test.YtkdcbidbciognaaM2
import Derived.Deep.CutRange
import Derived.Deep.CutBlock
namespace Go.Proofs.Ytkdcbidbciognaa
set_option linter.unusedVariables false
set_option linter.unusedSimpArgs false
open Go.RowKit Go.ChangeShapes Go.WideShapes

theorem op_n (v : AV) (kind ep0 br bn ep : Int) (l : List Int) (veto : Bool) : (opV v kind ep0 br bn ep l veto).n = v.n := by
  unfold opV
  split
  · unfold prepV; split <;> rfl
  · split
    · unfold accV; split <;> rfl
    · unfold learnV; split <;> rfl
def RsI (w wr : World) (a : Nat) (n : Int) : Prop := ∃ v, AAt wr a v ∧ AOk v ∧ v.n = n ∧ Below w.heap.size w wr ∧ w.heap.size ≤ a
theorem RsI.drewN {w wr : World} {a N : Nat} {n : Int} (h : RsI w wr a n) : RsI w (wr.drewN N) a n := by
  obtain ⟨v, h1, h2, h3, h4, h5⟩ := h
  have hx : Ext wr (wr.drewN N) := (Ext.refl _).drewN
  exact ⟨v, h1.stay hx, h2, h3, Below.trans h4 (Below.mono hx h4.size), h5⟩

set_option maxRecDepth 8000 in
set_option maxHeartbeats 64000000 in
theorem walk_acceptRises (A0 : Option Addr) (xs : List Op13) (cap0 : Nat) (w : World) (hc0 : xs.length ≤ cap0) (hn : xs.length ≤ 9223372036854775807) (hS : So13 w A0 xs) :
    Calls Try.prog 5 #[.slice A0 xs.length cap0] w fun e w' => e = .returned (.bool true) ∧ Below w.heap.size w w' := by
  refine hide_post fun D hD => ?_
  have CN : Hid (Calls Try.prog 26 #[.int .i64 4] w fun e w' => ∃ a, e = .returned (.tuple #[.pointer (some ⟨a, 0, none⟩), .int .i64 0]) ∧ AAt w' a ⟨4, 1, upTo 4, 0, 0, 0, 0, false, 0, []⟩ ∧ Ext w w' ∧ w.heap.size ≤ a) := new_yes 4 w (by decide) (by decide)
  have HTO : Hid (∀ V, Calls Try.prog 31 #[] V fun e w' => e = .returned (.bool true) ∧ Ext V w') := told13
  have HS := Lib.hid hS
  obtain ⟨nn, hnn⟩ : ∃ n, n = xs.length := ⟨_, rfl⟩
  rw [← hnn] at hn ⊢
  have HN := Lib.hid hnn
  clear hS hnn hc0
  go_enter Try.func5, Try.ntmps5
  go_wp2_with (go_at_call 26; (with_reducible refine CN.out.mono ?_); rintro e w1 ⟨a, rfl, hA, hx, hba⟩; have HA1 := Lib.hid hA; have X1 := Lib.hid hx; have HBA : Hid (w.heap.size ≤ a) := hba; clear hA hx hba)
  have HI0 : Hid (RsI w w1 a 4) := ⟨_, HA1.out, ⟨by decide, by decide, by decide, by decide, by decide, fun _ => ⟨rfl, rfl, rfl, rfl⟩, fun h => by cases h⟩, rfl, X1.out, HBA.out⟩
  go_loopw [5] (fun i wr => ∃ (j : Nat), j ≤ nn ∧ j ≤ 60 ∧ i = .int .i64 j ∧ Hid (RsI w wr a 4)) (fun i _ => nn - (intOf i).toNat)
  case atStart => exact ⟨0, Nat.zero_le _, by omega, rfl, HI0⟩
  case round =>
    obtain ⟨j, hj, hj8, rfl, HI⟩ := hrel
    by_cases hlt : j < nn ∧ j < 60
    · obtain ⟨x, hx⟩ : ∃ x, xs[j]? = some x := ⟨xs[j]'(by have := HN.out; omega), List.getElem?_eq_getElem _⟩
      obtain ⟨v, hA, hok, hvn, hbw, hba⟩ := HI.out
      have hslw : Sl i64 w x.A x.l := by
        obtain ⟨b5, o5, e5, c5, h5, r5⟩ := HS.out j x hx
        exact h5
      obtain ⟨b, o, rfl, hcells, hsl, hxok⟩ := (HS.out.stay hbw) j x hx
      obtain ⟨kind, ep0, br, bn, ep, OA, ocap, ol, veto⟩ := x
      obtain ⟨n, kep, kns, pr, pn, ar, an, has, vep, vns⟩ := v
      obtain ⟨hb1, hb2, hb3, hb4, hcap, hcap9⟩ := hxok
      simp only at hcap hcap9 hsl hslw hvn
      obtain ⟨nl, hnl⟩ : ∃ nl, nl = ol.length := ⟨_, rfl⟩
      have q0 := hcells 0 (by decide)
      have q1 := hcells 1 (by decide)
      have q2 := hcells 2 (by decide)
      have q3 := hcells 3 (by decide)
      have q4 := hcells 4 (by decide)
      have q5 := hcells 5 (by decide)
      have q6 := hcells 6 (by decide)
      simp [Op13.vals] at q0 q1 q2 q3 q4 q5 q6
      rw [← hnl] at q5
      obtain ⟨W0, hW0⟩ : ∃ W0, W0 = (wr.alloc (.cells #[.int .i64 kind, .int .i64 ep0, .int .i64 br, .int .i64 bn, .int .i64 ep, .slice OA nl ocap, .bool veto] 59)) := ⟨_, rfl⟩
      have hxw : Ext wr W0 := by rw [hW0]; exact ext_al _ _
      have o0 := (Blk.new wr 59 #[.int .i64 kind, .int .i64 ep0, .int .i64 br, .int .i64 bn, .int .i64 ep, .slice OA nl ocap, .bool veto]).cell 0
      have o1 := (Blk.new wr 59 #[.int .i64 kind, .int .i64 ep0, .int .i64 br, .int .i64 bn, .int .i64 ep, .slice OA nl ocap, .bool veto]).cell 1
      have o2 := (Blk.new wr 59 #[.int .i64 kind, .int .i64 ep0, .int .i64 br, .int .i64 bn, .int .i64 ep, .slice OA nl ocap, .bool veto]).cell 2
      have o3 := (Blk.new wr 59 #[.int .i64 kind, .int .i64 ep0, .int .i64 br, .int .i64 bn, .int .i64 ep, .slice OA nl ocap, .bool veto]).cell 3
      have o4 := (Blk.new wr 59 #[.int .i64 kind, .int .i64 ep0, .int .i64 br, .int .i64 bn, .int .i64 ep, .slice OA nl ocap, .bool veto]).cell 4
      have o5 := (Blk.new wr 59 #[.int .i64 kind, .int .i64 ep0, .int .i64 br, .int .i64 bn, .int .i64 ep, .slice OA nl ocap, .bool veto]).cell 5
      have o6 := (Blk.new wr 59 #[.int .i64 kind, .int .i64 ep0, .int .i64 br, .int .i64 bn, .int .i64 ep, .slice OA nl ocap, .bool veto]).cell 6
      simp at o0 o1 o2 o3 o4 o5 o6
      have KO : Hid (Below w.heap.size w (wr.alloc (.cells #[.int .i64 kind, .int .i64 ep0, .int .i64 br, .int .i64 bn, .int .i64 ep, .slice OA nl ocap, .bool veto] 59))) := Below.trans hbw (Below.mono (ext_al _ _) hbw.size)
      have HAO : Hid (AAt (wr.alloc (.cells #[.int .i64 kind, .int .i64 ep0, .int .i64 br, .int .i64 bn, .int .i64 ep, .slice OA nl ocap, .bool veto] 59)) a ⟨n, kep, kns, pr, pn, ar, an, has, vep, vns⟩) := hA.stay (ext_al _ _)
      have HOK := Lib.hid hok
      have HVN := Lib.hid hvn
      have HBA : Hid (w.heap.size ≤ a) := hba
      have HSLV : Hid (∀ V, Below w.heap.size w V → Sl i64 V OA ol) := fun V hV => hslw.stay hV
      have HNA := Lib.hid (sl_na hslw hba)
      have HNL := Lib.hid hnl
      have HCAP : Hid (ol.length ≤ ocap) := hcap
      have hj1 : (j : Int) < (nn : Int) := by omega
      have hj2 : (j : Int) < 60 := by omega
      have hj0 : (0 : Int) ≤ (j : Int) := by omega
      clear hcells hsl hslw hA hok hvn hbw hba hx hnl hcap HI hb1 hb2 hb3 hb4 hW0 hxw W0
      by_cases g2 : (8 : Int) < (nl : Int)
      · go_wp2_with (go_at_call 31; (with_reducible refine (HTO.out _).mono ?_); rintro e wt ⟨rfl, hx⟩; have KT : Hid (Below w.heap.size w wt) := Below.trans KO.out (Below.mono hx KO.out.size); clear hx)
        try go_ret
        exact hD.out _ _ ⟨rfl, KT.out⟩
      have HNL8 : Hid (ol.length ≤ 8) := by (show _ ≤ _); have := HNL.out; omega
      have CK : Hid (∀ V, AAt V a ⟨n, kep, kns, pr, pn, ar, an, has, vep, vns⟩ → Calls Try.prog 30 #[.pointer (some ⟨a, 0, none⟩)] V fun e w' => ∃ A c, e = .returned (.agg #[.int .i64 kep, .slice A kns.length c]) ∧ In w' A c kns ∧ Ext V w') := fun V H => known_any a _ V H HOK.out.kl
      have CV : Hid (∀ V, AAt V a ⟨n, kep, kns, pr, pn, ar, an, has, vep, vns⟩ → Calls Try.prog 29 #[.pointer (some ⟨a, 0, none⟩)] V fun e w' => ∃ A c, e = .returned (.agg #[.int .i64 pr, .int .i64 pn, .int .i64 ar, .int .i64 an, .bool has, .int .i64 vep, .slice A vns.length c]) ∧ In w' A c vns ∧ Ext V w') := fun V H => vote_any a _ V H HOK.out.vl
      go_upto_block 2 with (first
        | (go_at_call 30; (with_reducible refine (CK.out _ HAO.out).mono ?_); rintro e wk ⟨A7, c7, rfl, hin, hx⟩; have HI7 := Lib.hid hin; have Xk : Hid (Ext (wr.alloc (.cells #[.int .i64 kind, .int .i64 ep0, .int .i64 br, .int .i64 bn, .int .i64 ep, .slice OA nl ocap, .bool veto] 59)) wk) := hx; have HAk := Lib.hid (HAO.out.stay hx); clear hin hx)
        | (go_at_call 29; (with_reducible refine (CV.out _ HAk.out).mono ?_); rintro e wv ⟨A8, c8, rfl, hin, hx⟩; have HI8 := Lib.hid hin; have Xv : Hid (Ext wk wv) := hx; have HAv := Lib.hid (HAk.out.stay hx); have zk : ∀ o o', ((wv.alloc o).alloc o').cell? ⟨wr.heap.size, 0, none⟩ = some (.int .i64 kind) := (fun o o' => ((Blk.new wr 59 #[.int .i64 kind, .int .i64 ep0, .int .i64 br, .int .i64 bn, .int .i64 ep, .slice OA nl ocap, .bool veto]).stay (Ext.trans (Ext.trans (Ext.trans Xk.out hx) (ext_al _ o)) (ext_al _ o'))).cell 0); clear hin hx))
      obtain ⟨wz, hwz⟩ : ∃ wz, wz = ((wv.alloc (.cells #[.int .i64 kep, .slice A7 kns.length c7] 26)).alloc (.cells #[.int .i64 pr, .int .i64 pn, .int .i64 ar, .int .i64 an, .bool has, .int .i64 vep, .slice A8 vns.length c8] 40)) := ⟨_, rfl⟩
      have hxz : Ext wv wz := by rw [hwz]; exact Ext.trans (ext_al _ _) (ext_al _ _)
      have HXZ : Hid (Ext (wr.alloc (.cells #[.int .i64 kind, .int .i64 ep0, .int .i64 br, .int .i64 bn, .int .i64 ep, .slice OA nl ocap, .bool veto] 59)) wz) := Ext.trans (Ext.trans Xk.out Xv.out) hxz
      have B7 : Hid (Blk wz wv.heap.size 26 #[.int .i64 kep, .slice A7 kns.length c7]) := by (show Blk _ _ _ _); rw [hwz]; exact (Blk.new _ _ _).alloc _
      have B8 : Hid (Blk wz (wv.heap.size + 1) 40 #[.int .i64 pr, .int .i64 pn, .int .i64 ar, .int .i64 an, .bool has, .int .i64 vep, .slice A8 vns.length c8]) := by (show Blk _ _ _ _); rw [hwz]; exact Blk.new' _ _ _ _ (by simp)
      have HAz := Lib.hid (HAv.out.stay hxz)
      have HI7z := Lib.hid ((HI7.out.stay Xv.out).stay hxz)
      have HI8z := Lib.hid (HI8.out.stay hxz)
      have KZ : Hid (Below w.heap.size w wz) := Below.trans KO.out (Below.mono HXZ.out KO.out.size)
      have HWZ := Lib.hid hwz
      have kobz := (Blk.new wr 59 #[.int .i64 kind, .int .i64 ep0, .int .i64 br, .int .i64 bn, .int .i64 ep, .slice OA nl ocap, .bool veto]).stay HXZ.out
      have z0 := kobz.cell 0
      have z1 := kobz.cell 1
      have z2 := kobz.cell 2
      have z3 := kobz.cell 3
      have z4 := kobz.cell 4
      have z5 := kobz.cell 5
      have z6 := kobz.cell 6
      simp at z0 z1 z2 z3 z4 z5 z6
      try rw [← hwz]
      clear hwz hxz kobz zk
      go_cut [9] from 48 to 72 (fun f wx => ∃ fi v2, f = .int .i64 fi ∧ AAt wx a v2 ∧ AOk v2 ∧ v2.n = n ∧ (¬ fi = 0 → v2 = ⟨n, kep, kns, pr, pn, ar, an, has, vep, vns⟩) ∧ (kep ≤ v2.kep ∧ (v2.kep = kep → ¬ cmpBal v2.pr v2.pn pr pn < 0 ∧ (has = true → v2.has = true))) ∧ Blk wx wv.heap.size 26 #[.int .i64 kep, .slice A7 kns.length c7] ∧ Blk wx (wv.heap.size + 1) 40 #[.int .i64 pr, .int .i64 pn, .int .i64 ar, .int .i64 an, .bool has, .int .i64 vep, .slice A8 vns.length c8] ∧ In wx A7 c7 kns ∧ In wx A8 c8 vns ∧ Below w.heap.size w wx)
      case first =>
        have HREL : Hid (∀ wx, AAt wx a (opV ⟨n, kep, kns, pr, pn, ar, an, has, vep, vns⟩ kind ep0 br bn ep ol veto) → Frm (oneA a) wz wx → (fun (fi : Int) (v2 : AV) => AAt wx a v2 ∧ AOk v2 ∧ v2.n = n ∧ (¬ fi = 0 → v2 = ⟨n, kep, kns, pr, pn, ar, an, has, vep, vns⟩) ∧ (kep ≤ v2.kep ∧ (v2.kep = kep → ¬ cmpBal v2.pr v2.pn pr pn < 0 ∧ (has = true → v2.has = true))) ∧ Blk wx wv.heap.size 26 #[.int .i64 kep, .slice A7 kns.length c7] ∧ Blk wx (wv.heap.size + 1) 40 #[.int .i64 pr, .int .i64 pn, .int .i64 ar, .int .i64 an, .bool has, .int .i64 vep, .slice A8 vns.length c8] ∧ In wx A7 c7 kns ∧ In wx A8 c8 vns ∧ Below w.heap.size w wx) (opE ⟨n, kep, kns, pr, pn, ar, an, has, vep, vns⟩ kind ep0 br bn ep ol veto) (opV ⟨n, kep, kns, pr, pn, ar, an, has, vep, vns⟩ kind ep0 br bn ep ol veto)) := fun wx h1 h2 => by
          refine ⟨h1, HOK.out.op _ _ _ _ _ _ _, op_n _ _ _ _ _ _ _ _, fun hf => op_same hf, op_rise _ _ _ _ _ _ _ _, B7.out.frm h2 (fun e => ?_), B8.out.frm h2 (fun e => ?_), HI7z.out.other HAz.out h2, HI8z.out.other HAz.out h2, Frm.step KZ.out h2 KZ.out.size (fun k hk => by rw [hk]; exact HBA.out)⟩
          · obtain ⟨_, _, _, _, h3, _⟩ := HAz.out
            have hb := B7.out
            rw [show wv.heap.size = a from e] at hb
            exact Blk.apart hb h3 (by decide) rfl
          · obtain ⟨_, _, _, _, h3, _⟩ := HAz.out
            have hb := B8.out
            rw [show wv.heap.size + 1 = a from e] at hb
            exact Blk.apart hb h3 (by decide) rfl
        by_cases k0 : kind = 0
        · subst k0
          have CO0 : Hid (Calls Try.prog 27 #[.pointer (some ⟨a, 0, none⟩), .int .i64 ep0, .agg #[.int .i64 br, .int .i64 bn]] wz fun e w' => ∃ (R : AV) (A : Option Addr) (c : Nat), e = .returned (.tuple #[.agg #[.int .i64 R.pr, .int .i64 R.pn, .int .i64 R.ar, .int .i64 R.an, .bool R.has, .int .i64 R.vep, .slice A R.vns.length c], .int .i64 (opE ⟨n, kep, kns, pr, pn, ar, an, has, vep, vns⟩ 0 ep0 br bn ep ol veto)]) ∧ AAt w' a (opV ⟨n, kep, kns, pr, pn, ar, an, has, vep, vns⟩ 0 ep0 br bn ep ol veto) ∧ Frm (oneA a) wz w') := by
            have hE : opE ⟨n, kep, kns, pr, pn, ar, an, has, vep, vns⟩ 0 ep0 br bn ep ol veto = prepE ⟨n, kep, kns, pr, pn, ar, an, has, vep, vns⟩ ep0 br bn := by unfold opE; rw [if_pos rfl]
            have hV : opV ⟨n, kep, kns, pr, pn, ar, an, has, vep, vns⟩ 0 ep0 br bn ep ol veto = prepV ⟨n, kep, kns, pr, pn, ar, an, has, vep, vns⟩ ep0 br bn := by unfold opV; rw [if_pos rfl]
            rw [hE, hV]
            exact (prep_any a _ ep0 br bn wz HAz.out HOK.out).mono fun e w' ⟨A, c, h1, _, h2, h3⟩ => ⟨_, A, c, h1, h2, h3⟩
          go_wp2_with (go_at_call 27; (with_reducible refine CO0.out.mono ?_); rintro e wx ⟨R, A9, c9, rfl, hA, hf⟩; have HA := Lib.hid hA; have HF := Lib.hid hf; clear hA hf)
          go_meet
          case rel => exact ⟨opE ⟨n, kep, kns, pr, pn, ar, an, has, vep, vns⟩ 0 ep0 br bn ep ol veto, opV ⟨n, kep, kns, pr, pn, ar, an, has, vep, vns⟩ 0 ep0 br bn ep ol veto, rfl, HREL.out _ HA.out HF.out⟩
        · by_cases k1 : kind = 1
          · subst k1
            have CO1 : Hid (Calls Try.prog 32 #[.pointer (some ⟨a, 0, none⟩), .agg #[.int .i64 ep, .slice OA nl ocap], .agg #[.int .i64 br, .int .i64 bn], .bool veto] wz fun e w' => e = .returned (.int .i64 (opE ⟨n, kep, kns, pr, pn, ar, an, has, vep, vns⟩ 1 ep0 br bn ep ol veto)) ∧ AAt w' a (opV ⟨n, kep, kns, pr, pn, ar, an, has, vep, vns⟩ 1 ep0 br bn ep ol veto) ∧ Frm (oneA a) wz w') := by
              rw [HNL.out]
              have hE : opE ⟨n, kep, kns, pr, pn, ar, an, has, vep, vns⟩ 1 ep0 br bn ep ol veto = accE ⟨n, kep, kns, pr, pn, ar, an, has, vep, vns⟩ ep ol br bn veto := by unfold opE; rw [if_neg (by decide), if_pos rfl]
              have hV : opV ⟨n, kep, kns, pr, pn, ar, an, has, vep, vns⟩ 1 ep0 br bn ep ol veto = accV ⟨n, kep, kns, pr, pn, ar, an, has, vep, vns⟩ ep ol br bn veto := by unfold opV; rw [if_neg (by decide), if_pos rfl]
              rw [hE, hV]
              exact acc_any a _ ep br bn OA ocap ol veto wz HAz.out HOK.out (by have := HNL8.out; omega) HCAP.out (HSLV.out _ KZ.out) HNA.out
            go_wp2_with (go_at_call 32; (with_reducible refine CO1.out.mono ?_); rintro e wx ⟨rfl, hA, hf⟩; have HA := Lib.hid hA; have HF := Lib.hid hf; clear hA hf)
            go_meet
            case rel => exact ⟨opE ⟨n, kep, kns, pr, pn, ar, an, has, vep, vns⟩ 1 ep0 br bn ep ol veto, opV ⟨n, kep, kns, pr, pn, ar, an, has, vep, vns⟩ 1 ep0 br bn ep ol veto, rfl, HREL.out _ HA.out HF.out⟩
          · have CO2 : Hid (Calls Try.prog 28 #[.pointer (some ⟨a, 0, none⟩), .agg #[.int .i64 ep, .slice OA nl ocap]] wz fun e w' => e = .returned (.int .i64 (opE ⟨n, kep, kns, pr, pn, ar, an, has, vep, vns⟩ kind ep0 br bn ep ol veto)) ∧ AAt w' a (opV ⟨n, kep, kns, pr, pn, ar, an, has, vep, vns⟩ kind ep0 br bn ep ol veto) ∧ Frm (oneA a) wz w') := by
              rw [HNL.out]
              have hE : opE ⟨n, kep, kns, pr, pn, ar, an, has, vep, vns⟩ kind ep0 br bn ep ol veto = learnE ⟨n, kep, kns, pr, pn, ar, an, has, vep, vns⟩ ep ol := by unfold opE; rw [if_neg k0, if_neg k1]
              have hV : opV ⟨n, kep, kns, pr, pn, ar, an, has, vep, vns⟩ kind ep0 br bn ep ol veto = learnV ⟨n, kep, kns, pr, pn, ar, an, has, vep, vns⟩ ep ol := by unfold opV; rw [if_neg k0, if_neg k1]
              rw [hE, hV]
              exact learn_any a _ ep OA ocap ol wz HAz.out HOK.out (by have := HNL8.out; omega) HCAP.out (HSLV.out _ KZ.out) HNA.out
            go_wp2_with (go_at_call 28; (with_reducible refine CO2.out.mono ?_); rintro e wx ⟨rfl, hA, hf⟩; have HA := Lib.hid hA; have HF := Lib.hid hf; clear hA hf)
            go_meet
            case rel => exact ⟨opE ⟨n, kep, kns, pr, pn, ar, an, has, vep, vns⟩ kind ep0 br bn ep ol veto, opV ⟨n, kep, kns, pr, pn, ar, an, has, vep, vns⟩ kind ep0 br bn ep ol veto, rfl, HREL.out _ HA.out HF.out⟩
      case rest =>
        clear z0 z1 z2 z3 z4 z5 z6 q0 q1 q2 q3 q4 q5 q6 o0 o1 o2 o3 o4 o5 o6 B7 B8 HAz HI7z HI8z KZ HWZ HXZ HAv HAk HI7 HI8 HAO KO HSLV HNA HNL HNL8 HCAP Xk Xv CK CV
        obtain ⟨fi, v2, rfl, hA, hok2, hn2, hsame, hrise, b7, b8, i7, i8, hbw⟩ := hcut
        obtain ⟨n2, kep2, kns2, pr2, pn2, ar2, an2, has2, vep2, vns2⟩ := v2
        simp only at hn2 hrise
        have HA2 := Lib.hid hA
        have HOK2 := Lib.hid hok2
        have B7 := Lib.hid b7
        have B8 := Lib.hid b8
        have I7 := Lib.hid i7
        have I8 := Lib.hid i8
        have KC : Hid (Below w.heap.size w wc) := hbw
        have HN2 : Hid (n2 = 4) := hn2.trans HVN.out
        have HSAME := Lib.hid hsame
        have HRISE := Lib.hid hrise
        clear hA hok2 b7 b8 i7 i8 hbw hn2 hsame hrise
        have CK2 : Hid (∀ V, AAt V a ⟨n2, kep2, kns2, pr2, pn2, ar2, an2, has2, vep2, vns2⟩ → Calls Try.prog 30 #[.pointer (some ⟨a, 0, none⟩)] V fun e w' => ∃ A c, e = .returned (.agg #[.int .i64 kep2, .slice A kns2.length c]) ∧ In w' A c kns2 ∧ Ext V w') := fun V H => known_any a _ V H HOK2.out.kl
        have CV2 : Hid (∀ V, AAt V a ⟨n2, kep2, kns2, pr2, pn2, ar2, an2, has2, vep2, vns2⟩ → Calls Try.prog 29 #[.pointer (some ⟨a, 0, none⟩)] V fun e w' => ∃ A c, e = .returned (.agg #[.int .i64 pr2, .int .i64 pn2, .int .i64 ar2, .int .i64 an2, .bool has2, .int .i64 vep2, .slice A vns2.length c]) ∧ In w' A c vns2 ∧ Ext V w') := fun V H => vote_any a _ V H HOK2.out.vl
        go_upto_region 19 with (first
          | (go_at_call 30; (with_reducible refine (CK2.out _ HA2.out).mono ?_); rintro e wk2 ⟨A10, c10, rfl, hin, hx⟩; have HI10 := Lib.hid hin; have Xk2 : Hid (Ext wc wk2) := hx; have HAk2 := Lib.hid (HA2.out.stay hx); clear hin hx)
          | (go_at_call 29; (with_reducible refine (CV2.out _ HAk2.out).mono ?_); rintro e wv2 ⟨A11, c11, rfl, hin, hx⟩; have HI11 := Lib.hid hin; have Xv2 : Hid (Ext wk2 wv2) := hx; have HAv2 := Lib.hid (HAk2.out.stay hx); clear hin hx))
        obtain ⟨we, hwe⟩ : ∃ we, we = ((wv2.alloc (.cells #[.int .i64 kep2, .slice A10 kns2.length c10] 26)).alloc (.cells #[.int .i64 pr2, .int .i64 pn2, .int .i64 ar2, .int .i64 an2, .bool has2, .int .i64 vep2, .slice A11 vns2.length c11] 40)) := ⟨_, rfl⟩
        have hxe : Ext wv2 we := by rw [hwe]; exact Ext.trans (ext_al _ _) (ext_al _ _)
        have XE : Hid (Ext wc we) := Ext.trans (Ext.trans Xk2.out Xv2.out) hxe
        have B10 : Hid (Blk we wv2.heap.size 26 #[.int .i64 kep2, .slice A10 kns2.length c10]) := by (show Blk _ _ _ _); rw [hwe]; exact (Blk.new _ _ _).alloc _
        have B11 : Hid (Blk we (wv2.heap.size + 1) 40 #[.int .i64 pr2, .int .i64 pn2, .int .i64 ar2, .int .i64 an2, .bool has2, .int .i64 vep2, .slice A11 vns2.length c11]) := by (show Blk _ _ _ _); rw [hwe]; exact Blk.new' _ _ _ _ (by simp)
        have I10 : Hid (∀ V, Ext we V → Sl i64 V A10 kns2) := fun V h => (((HI10.out.stay Xv2.out).stay hxe).stay h).sl
        have I11 : Hid (∀ V, Ext we V → Sl i64 V A11 vns2) := fun V h => ((HI11.out.stay hxe).stay h).sl
        have I7e : Hid (∀ V, Ext we V → Sl i64 V A7 kns) := fun V h => ((I7.out.stay XE.out).stay h).sl
        have I8e : Hid (∀ V, Ext we V → Sl i64 V A8 vns) := fun V h => ((I8.out.stay XE.out).stay h).sl
        have HAe := Lib.hid (HA2.out.stay XE.out)
        have KE : Hid (Below w.heap.size w we) := Below.trans KC.out (Below.mono XE.out KC.out.size)
        have hx0 : Ext we we := Ext.refl _
        have HEND : Hid (∀ V, Ext we V → RsI w V a 4) := fun V h => ⟨_, HAe.out.stay h, HOK2.out, HN2.out, Below.trans KE.out (Below.mono h KE.out.size), HBA.out⟩
        have L1 := Lib.hid HOK.out.kl
        have L2 := Lib.hid HOK2.out.kl
        have L3 := Lib.hid HOK.out.vl
        have L4 := Lib.hid HOK2.out.vl
        simp only at L1 L2 L3 L4
        have y7_0 : ∀ V, Ext we V → V.cell? ⟨wv.heap.size, 0, none⟩ = some (.int .i64 kep) := fun V h => ((B7.out.stay XE.out).stay h).cell 0
        have y7_1 : ∀ V, Ext we V → V.cell? ⟨wv.heap.size, 1, none⟩ = some (.slice A7 kns.length c7) := fun V h => ((B7.out.stay XE.out).stay h).cell 1
        have y8_0 : ∀ V, Ext we V → V.cell? ⟨wv.heap.size + 1, 0, none⟩ = some (.int .i64 pr) := fun V h => ((B8.out.stay XE.out).stay h).cell 0
        have y8_1 : ∀ V, Ext we V → V.cell? ⟨wv.heap.size + 1, 1, none⟩ = some (.int .i64 pn) := fun V h => ((B8.out.stay XE.out).stay h).cell 1
        have y8_2 : ∀ V, Ext we V → V.cell? ⟨wv.heap.size + 1, 2, none⟩ = some (.int .i64 ar) := fun V h => ((B8.out.stay XE.out).stay h).cell 2
        have y8_3 : ∀ V, Ext we V → V.cell? ⟨wv.heap.size + 1, 3, none⟩ = some (.int .i64 an) := fun V h => ((B8.out.stay XE.out).stay h).cell 3
        have y8_4 : ∀ V, Ext we V → V.cell? ⟨wv.heap.size + 1, 4, none⟩ = some (.bool has) := fun V h => ((B8.out.stay XE.out).stay h).cell 4
        have y8_5 : ∀ V, Ext we V → V.cell? ⟨wv.heap.size + 1, 5, none⟩ = some (.int .i64 vep) := fun V h => ((B8.out.stay XE.out).stay h).cell 5
        have y8_6 : ∀ V, Ext we V → V.cell? ⟨wv.heap.size + 1, 6, none⟩ = some (.slice A8 vns.length c8) := fun V h => ((B8.out.stay XE.out).stay h).cell 6
        have y10_0 : ∀ V, Ext we V → V.cell? ⟨wv2.heap.size, 0, none⟩ = some ((.int .i64 kep2)) := fun V h => (B10.out.stay h).cell 0
        have y10_1 : ∀ V, Ext we V → V.cell? ⟨wv2.heap.size, 1, none⟩ = some ((.slice A10 kns2.length c10)) := fun V h => (B10.out.stay h).cell 1
        have y11_0 : ∀ V, Ext we V → V.cell? ⟨wv2.heap.size + 1, 0, none⟩ = some (.int .i64 pr2) := fun V h => (B11.out.stay h).cell 0
        have y11_1 : ∀ V, Ext we V → V.cell? ⟨wv2.heap.size + 1, 1, none⟩ = some (.int .i64 pn2) := fun V h => (B11.out.stay h).cell 1
        have y11_2 : ∀ V, Ext we V → V.cell? ⟨wv2.heap.size + 1, 2, none⟩ = some (.int .i64 ar2) := fun V h => (B11.out.stay h).cell 2
        have y11_3 : ∀ V, Ext we V → V.cell? ⟨wv2.heap.size + 1, 3, none⟩ = some (.int .i64 an2) := fun V h => (B11.out.stay h).cell 3
        have y11_4 : ∀ V, Ext we V → V.cell? ⟨wv2.heap.size + 1, 4, none⟩ = some (.bool has2) := fun V h => (B11.out.stay h).cell 4
        have y11_5 : ∀ V, Ext we V → V.cell? ⟨wv2.heap.size + 1, 5, none⟩ = some (.int .i64 vep2) := fun V h => (B11.out.stay h).cell 5
        have y11_6 : ∀ V, Ext we V → V.cell? ⟨wv2.heap.size + 1, 6, none⟩ = some (.slice A11 vns2.length c11) := fun V h => (B11.out.stay h).cell 6
        have CCM : Hid (∀ V, Ext we V → Calls Try.prog 34 #[.agg #[.int .i64 pr2, .int .i64 pn2], .agg #[.int .i64 pr, .int .i64 pn]] V fun e w' => e = .returned (.int .i64 (cmpBal pr2 pn2 pr pn)) ∧ Ext we w') := fun V h => (refCmp_any pr2 pn2 pr pn V).mono fun e w' ⟨h1, h2⟩ => ⟨h1, Ext.trans h h2⟩
        have CCA : Hid (∀ V, Ext we V → Calls Try.prog 34 #[.agg #[.int .i64 ar2, .int .i64 an2], .agg #[.int .i64 pr2, .int .i64 pn2]] V fun e w' => e = .returned (.int .i64 (cmpBal ar2 an2 pr2 pn2)) ∧ Ext we w') := fun V h => (refCmp_any ar2 an2 pr2 pn2 V).mono fun e w' ⟨h1, h2⟩ => ⟨h1, Ext.trans h h2⟩
        have CFO : Hid (has2 = true → ∀ V, Ext we V → Calls Try.prog 35 #[.agg #[.int .i64 kep2, .slice A10 kns2.length c10], .agg #[.int .i64 vep2, .slice A11 vns2.length c11], .int .i64 4] V fun e w' => e = .returned (.bool true) ∧ Ext we w') := fun hh V h => by
          have hy := (HOK2.out.yes hh).2.2
          rw [HN2.out] at hy
          exact (follows_any kep2 vep2 4 A10 A11 c10 c11 kns2 vns2 V (by have := L2.out; omega) (by have := L4.out; omega) (I10.out V h) (I11.out V h)).mono fun e w' ⟨h1, h2⟩ => ⟨by rw [h1]; exact congrArg (fun b => Ending.returned (.bool b)) hy, Ext.trans h h2⟩
        have CSC : Hid (kep = kep2 ∧ kns = kns2 → ∀ V, Ext we V → Calls Try.prog 23 #[.agg #[.int .i64 kep, .slice A7 kns.length c7], .agg #[.int .i64 kep2, .slice A10 kns2.length c10]] V fun e w' => e = .returned (.bool true) ∧ Ext we w') := fun hh V h => (sameRef_any kep kep2 A7 A10 c7 c10 kns kns2 V (by have := L1.out; omega) (by have := L2.out; omega) (I7e.out V h) (I10.out V h)).mono fun e w' ⟨h1, h2⟩ => ⟨by rw [h1]; simp [hh], Ext.trans h h2⟩
        have CSV : Hid (⟨n2, kep2, kns2, pr2, pn2, ar2, an2, has2, vep2, vns2⟩ = (AV.mk n kep kns pr pn ar an has vep vns) → ∀ V, Ext we V → Calls Try.prog 33 #[.agg #[.int .i64 pr, .int .i64 pn, .int .i64 ar, .int .i64 an, .bool has, .int .i64 vep, .slice A8 vns.length c8], .agg #[.int .i64 pr2, .int .i64 pn2, .int .i64 ar2, .int .i64 an2, .bool has2, .int .i64 vep2, .slice A11 vns2.length c11]] V fun e w' => e = .returned (.bool true) ∧ Ext we w') := fun hh V h => by
          injection hh with e1 e2 e3 e4 e5 e6 e7 e8 e9 e10
          subst e4 e5 e6 e7 e8 e9 e10
          exact (sameVote_eq _ _ _ _ _ _ A8 A11 c8 c11 _ V (by have := L3.out; omega) (I8e.out V h) (I11.out V h)).mono fun e w' ⟨h1, h2⟩ => ⟨h1, Ext.trans h h2⟩
        try rw [← hwe]
        clear hwe hxe B7 B8 B10 B11 I7 I8 I10 I11 I7e I8e HI10 HI11 HAk2 HAv2 HA2 KC CK2 CV2 Xk2 Xv2
        obtain ⟨m1, hm1⟩ : ∃ m, m = cmpBal pr2 pn2 pr pn := ⟨_, rfl⟩
        obtain ⟨m2, hm2⟩ : ∃ m, m = cmpBal ar2 an2 pr2 pn2 := ⟨_, rfl⟩
        rw [← hm1] at CCM HRISE
        rw [← hm2] at CCA
        have hm2' : has2 = true → ¬ 0 < m2 := fun hh => by have := (HOK2.out.yes hh).2.1; simp only at this; rw [hm2]; omega
        by_cases f0 : fi = 0
        · subst f0
          by_cases hk : kep2 = kep
          · obtain ⟨r1, r2⟩ := HRISE.out.2 hk
            subst hk
            have hkk : ¬ kep2 < kep2 := by omega
            clear hm1 hm2
            cases has2
            · cases has
              · clear hm2' r2
                go_wp2_with (first
                  | (go_at_call 23; (with_reducible refine (CSC'.out _ (by assumption)).mono ?_); rintro e wq ⟨rfl, hx⟩)
                  | (go_at_call 33; (with_reducible refine (CSV'.out _ (by assumption)).mono ?_); rintro e wq ⟨rfl, hx⟩)
                  | (go_at_call 34; (with_reducible refine (CCM.out _ (by assumption)).mono ?_); rintro e wq ⟨rfl, hx⟩)
                  | (go_at_call 34; (with_reducible refine (CCA.out _ (by assumption)).mono ?_); rintro e wq ⟨rfl, hx⟩)
                  | (go_at_call 35; (with_reducible refine (CFO'.out _ (by assumption)).mono ?_); rintro e wq ⟨rfl, hx⟩))
                go_roundw
                case rel =>
                  exact ⟨j + 1, by omega, by omega, by go_num, by first | exact HEND.out _ (by assumption) | exact (HEND.out _ (by assumption)).drewN⟩
                case measure => simp [intOf]; omega
              · cases r2 rfl
            · have hm3 := hm2' rfl
              have CFO' := Lib.hid (CFO.out rfl)
              cases has
              · clear hm2' r2
                go_wp2_with (first
                  | (go_at_call 23; (with_reducible refine (CSC'.out _ (by assumption)).mono ?_); rintro e wq ⟨rfl, hx⟩)
                  | (go_at_call 33; (with_reducible refine (CSV'.out _ (by assumption)).mono ?_); rintro e wq ⟨rfl, hx⟩)
                  | (go_at_call 34; (with_reducible refine (CCM.out _ (by assumption)).mono ?_); rintro e wq ⟨rfl, hx⟩)
                  | (go_at_call 34; (with_reducible refine (CCA.out _ (by assumption)).mono ?_); rintro e wq ⟨rfl, hx⟩)
                  | (go_at_call 35; (with_reducible refine (CFO'.out _ (by assumption)).mono ?_); rintro e wq ⟨rfl, hx⟩))
                go_roundw
                case rel =>
                  exact ⟨j + 1, by omega, by omega, by go_num, by first | exact HEND.out _ (by assumption) | exact (HEND.out _ (by assumption)).drewN⟩
                case measure => simp [intOf]; omega
              · clear hm2' r2
                go_wp2_with (first
                  | (go_at_call 23; (with_reducible refine (CSC'.out _ (by assumption)).mono ?_); rintro e wq ⟨rfl, hx⟩)
                  | (go_at_call 33; (with_reducible refine (CSV'.out _ (by assumption)).mono ?_); rintro e wq ⟨rfl, hx⟩)
                  | (go_at_call 34; (with_reducible refine (CCM.out _ (by assumption)).mono ?_); rintro e wq ⟨rfl, hx⟩)
                  | (go_at_call 34; (with_reducible refine (CCA.out _ (by assumption)).mono ?_); rintro e wq ⟨rfl, hx⟩)
                  | (go_at_call 35; (with_reducible refine (CFO'.out _ (by assumption)).mono ?_); rintro e wq ⟨rfl, hx⟩))
                go_roundw
                case rel =>
                  exact ⟨j + 1, by omega, by omega, by go_num, by first | exact HEND.out _ (by assumption) | exact (HEND.out _ (by assumption)).drewN⟩
                case measure => simp [intOf]; omega
          · have hkk : ¬ kep2 < kep := by have := HRISE.out.1; omega
            clear hm1 hm2
            cases has2
            · clear hm2'
              go_wp2_with (first
                | (go_at_call 23; (with_reducible refine (CSC'.out _ (by assumption)).mono ?_); rintro e wq ⟨rfl, hx⟩)
                | (go_at_call 33; (with_reducible refine (CSV'.out _ (by assumption)).mono ?_); rintro e wq ⟨rfl, hx⟩)
                | (go_at_call 34; (with_reducible refine (CCM.out _ (by assumption)).mono ?_); rintro e wq ⟨rfl, hx⟩)
                | (go_at_call 34; (with_reducible refine (CCA.out _ (by assumption)).mono ?_); rintro e wq ⟨rfl, hx⟩)
                | (go_at_call 35; (with_reducible refine (CFO'.out _ (by assumption)).mono ?_); rintro e wq ⟨rfl, hx⟩))
              go_roundw
              case rel =>
                exact ⟨j + 1, by omega, by omega, by go_num, by first | exact HEND.out _ (by assumption) | exact (HEND.out _ (by assumption)).drewN⟩
              case measure => simp [intOf]; omega
            · have hm3 := hm2' rfl
              have CFO' := Lib.hid (CFO.out rfl)
              clear hm2'
              go_wp2_with (first
                | (go_at_call 23; (with_reducible refine (CSC'.out _ (by assumption)).mono ?_); rintro e wq ⟨rfl, hx⟩)
                | (go_at_call 33; (with_reducible refine (CSV'.out _ (by assumption)).mono ?_); rintro e wq ⟨rfl, hx⟩)
                | (go_at_call 34; (with_reducible refine (CCM.out _ (by assumption)).mono ?_); rintro e wq ⟨rfl, hx⟩)
                | (go_at_call 34; (with_reducible refine (CCA.out _ (by assumption)).mono ?_); rintro e wq ⟨rfl, hx⟩)
                | (go_at_call 35; (with_reducible refine (CFO'.out _ (by assumption)).mono ?_); rintro e wq ⟨rfl, hx⟩))
              go_roundw
              case rel =>
                exact ⟨j + 1, by omega, by omega, by go_num, by first | exact HEND.out _ (by assumption) | exact (HEND.out _ (by assumption)).drewN⟩
              case measure => simp [intOf]; omega
        · have hs := HSAME.out f0
          have CSV' := Lib.hid (CSV.out hs)
          injection hs with e1 e2 e3 e4 e5 e6 e7 e8 e9 e10
          subst e1 e2 e3 e4 e5 e6 e7 e8 e9 e10
          have CSC' := Lib.hid (CSC.out ⟨rfl, rfl⟩)
          have r1 := (HRISE.out.2 rfl).1
          have hkk : ¬ kep2 < kep2 := by omega
          clear hm1 hm2
          cases has2
          · clear hm2'
            go_wp2_with (first
              | (go_at_call 23; (with_reducible refine (CSC'.out _ (by assumption)).mono ?_); rintro e wq ⟨rfl, hx⟩)
              | (go_at_call 33; (with_reducible refine (CSV'.out _ (by assumption)).mono ?_); rintro e wq ⟨rfl, hx⟩)
              | (go_at_call 34; (with_reducible refine (CCM.out _ (by assumption)).mono ?_); rintro e wq ⟨rfl, hx⟩)
              | (go_at_call 34; (with_reducible refine (CCA.out _ (by assumption)).mono ?_); rintro e wq ⟨rfl, hx⟩)
              | (go_at_call 35; (with_reducible refine (CFO'.out _ (by assumption)).mono ?_); rintro e wq ⟨rfl, hx⟩))
            go_roundw
            case rel =>
              exact ⟨j + 1, by omega, by omega, by go_num, by first | exact HEND.out _ (by assumption) | exact (HEND.out _ (by assumption)).drewN⟩
            case measure => simp [intOf]; omega
          · have hm3 := hm2' rfl
            have CFO' := Lib.hid (CFO.out rfl)
            clear hm2'
            go_wp2_with (first
              | (go_at_call 23; (with_reducible refine (CSC'.out _ (by assumption)).mono ?_); rintro e wq ⟨rfl, hx⟩)
              | (go_at_call 33; (with_reducible refine (CSV'.out _ (by assumption)).mono ?_); rintro e wq ⟨rfl, hx⟩)
              | (go_at_call 34; (with_reducible refine (CCM.out _ (by assumption)).mono ?_); rintro e wq ⟨rfl, hx⟩)
              | (go_at_call 34; (with_reducible refine (CCA.out _ (by assumption)).mono ?_); rintro e wq ⟨rfl, hx⟩)
              | (go_at_call 35; (with_reducible refine (CFO'.out _ (by assumption)).mono ?_); rintro e wq ⟨rfl, hx⟩))
            go_roundw
            case rel =>
              exact ⟨j + 1, by omega, by omega, by go_num, by first | exact HEND.out _ (by assumption) | exact (HEND.out _ (by assumption)).drewN⟩
            case measure => simp [intOf]; omega
    · have KE : Hid (Below w.heap.size w wr) := by obtain ⟨_, _, _, _, h, _⟩ := HI.out; exact h
      clear HI
      by_cases h1 : j < nn
      · have h2 : ¬ (j : Int) < 60 := by omega
        have h3 : (j : Int) < (nn : Int) := by omega
        go_wp2_with (go_at_call 31; (with_reducible refine (HTO.out _).mono ?_); rintro e wt ⟨rfl, hx⟩; have KT : Hid (Below w.heap.size w wt) := Below.trans KE.out (Below.mono hx KE.out.size); clear hx)
        try go_ret
        exact hD.out _ _ ⟨rfl, KT.out⟩
      · have h3 : ¬ (j : Int) < (nn : Int) := by omega
        go_wp2_with (go_at_call 31; (with_reducible refine (HTO.out _).mono ?_); rintro e wt ⟨rfl, hx⟩; have KT : Hid (Below w.heap.size w wt) := Below.trans KE.out (Below.mono hx KE.out.size); clear hx)
        try go_ret
        exact hD.out _ _ ⟨rfl, KT.out⟩

set_option maxRecDepth 100000 in
theorem law_acceptRises {H : Type} {enc : TypeId × Value → H} (W : World) (base : Nat) (args : Array Value) (ds : List (DataW H)) (p : List MemPlace)
    (hval : ∀ (j : Nat) t v, Try.f5.params[j]? = some t → args[j]? = some v → Value.okWide Try.prog W .any base t v)
    (hA : DataW.TrodAll enc Try.prog W 0 (fun _ => true) true Try.f5.params.toList args.toList ds p) :
    Calls Try.prog 5 args W fun e W' => e = .returned (.bool true) ∧ Below W.heap.size W W' := by
  rw [Try.params5] at hA hval
  obtain ⟨v0, vs0, d0, ds0, p0, q0, hargs, rfl, rfl, h0, r0⟩ := trodAll_cons hA
  obtain ⟨rfl, rfl, rfl⟩ := trodAll_nil r0
  obtain rfl : args = #[v0] := by cases args; simp_all
  obtain ⟨A0, n0, c0, rfl⟩ := okWide_slice Try.underlying57 (hval 0 57 v0 rfl rfl)
  obtain ⟨fuel0, hf0⟩ := h0
  obtain ⟨B0, l0, e0, hcs0, x0, y0, z0⟩ := open_ops13 hf0
  simp only [Value.cells, List.cons.injEq, Value.slice.injEq, and_true] at hcs0
  obtain ⟨rfl, rfl, rfl⟩ := hcs0
  exact walk_acceptRises A0 l0 c0 W x0 (Nat.le_trans x0 y0) z0

end Go.Proofs.Ytkdcbidbciognaa
