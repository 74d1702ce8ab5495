/-
  The walk of the law AcceptPlays.
-/
import Derived.Test.YtkdcbidbciognaaAcceptRisesWalk
import Derived.Test.YtkdcbidbciognaaAccLoad
import Derived.Test.YtkdcbidbciognaaAccRef2
import Derived.Test.YtkdcbidbciognaaAccSame
namespace Go.Proofs.Ytkdcbidbciognaa
set_option linter.unusedVariables false
set_option linter.unusedSimpArgs false
open Go.RowKit Go.ChangeShapes Go.WideShapes

/-- an acceptor of n and the document's, which know the same -/
def PlI (w wr : World) (a xa : Nat) (n : Nat) : Prop := ∃ v, AAt wr a v ∧ XAt wr xa v ∧ AOk v ∧ v.n = n ∧ Below w.heap.size w wr ∧ w.heap.size ≤ a ∧ w.heap.size ≤ xa
theorem PlI.drewN {w wr : World} {a b n N : Nat} (h : PlI w wr a b n) : PlI w (wr.drewN N) a b n := by
  obtain ⟨v, h1, h2, h3, h4, h5, h6⟩ := h
  have hx : Ext wr (wr.drewN N) := (Ext.refl _).drewN
  exact ⟨v, h1.stay hx, h2.stay hx, h3, h4, Below.trans h5 (Below.mono hx h5.size), h6⟩
theorem ok_new (m : Nat) (h1 : 1 ≤ m) (h5 : m ≤ 5) : AOk ⟨m, 1, upTo m, 0, 0, 0, 0, false, 0, []⟩ := by
  have h : m = 1 ∨ m = 2 ∨ m = 3 ∨ m = 4 ∨ m = 5 := by omega
  rcases h with rfl | rfl | rfl | rfl | rfl <;> exact ⟨by decide, by decide, by decide, by decide, by decide, fun _ => ⟨rfl, rfl, rfl, rfl⟩, fun h => by cases h⟩

set_option maxRecDepth 8000 in
set_option maxHeartbeats 8000000 in
theorem plays13_no (n : Int) (A0 : Option Addr) (nn cap0 : Nat) (w : World) (h : n < 1 ∨ 5 < n) :
    Calls Try.prog 9 #[.int .i64 n, .slice A0 nn cap0] w fun e w' => e = .returned (.bool true) ∧ Below w.heap.size w w' := by
  refine hide_post fun D hD => ?_
  have CN : Hid (Calls Try.prog 26 #[.int .i64 n] w fun e w' => e = .returned (.tuple #[.pointer none, .int .i64 1]) ∧ Ext w w') := new_no n w h
  have CF : Hid (∀ V, Calls Try.prog 38 #[.int .i64 n] V fun e w' => e = .returned (.tuple #[.agg #[.int .i64 0, .slice none 0 0], .int .i64 1]) ∧ Ext V w') := fun V => refFirst_no n V h
  have HTO : Hid (∀ V, Calls Try.prog 31 #[] V fun e w' => e = .returned (.bool true) ∧ Ext V w') := told13
  clear h
  go_enter Try.func9, Try.ntmps9
  go_wp2_with (first
    | (go_at_call 26; (with_reducible refine CN.out.mono ?_); rintro e w1 ⟨rfl, hx⟩; have X1 := Lib.hid hx; clear hx)
    | (go_at_call 38; (with_reducible refine (CF.out _).mono ?_); rintro e w2 ⟨rfl, hx⟩; have X2 : Hid (Ext w w2) := Ext.trans X1.out hx; clear hx)
    | (go_at_call 31; (with_reducible refine (HTO.out _).mono ?_); rintro e wt ⟨rfl, hx⟩; have KT : Hid (Ext w wt) := Ext.trans X2.out (Ext.trans (ext_al _ _) hx); clear hx))
  try go_ret
  exact hD.out _ _ ⟨rfl, KT.out⟩

set_option maxRecDepth 8000 in
set_option maxHeartbeats 64000000 in
theorem plays13_yes (m : Nat) (A0 : Option Addr) (xs : List Op13) (cap0 : Nat) (w : World) (hm1 : 1 ≤ m) (hm5 : m ≤ 5) (hn : xs.length ≤ 9223372036854775807) (hS : So13 w A0 xs) :
    Calls Try.prog 9 #[.int .i64 m, .slice A0 xs.length cap0] w fun e w' => e = .returned (.bool true) ∧ Below w.heap.size w w' := by
  refine hide_post fun D hD => ?_
  have CN : Hid (Calls Try.prog 26 #[.int .i64 m] w fun e w' => ∃ a, e = .returned (.tuple #[.pointer (some ⟨a, 0, none⟩), .int .i64 0]) ∧ AAt w' a ⟨m, 1, upTo m, 0, 0, 0, 0, false, 0, []⟩ ∧ Ext w w' ∧ w.heap.size ≤ a) := new_yes m w hm1 hm5
  have CF : Hid (∀ V, Calls Try.prog 38 #[.int .i64 m] V fun e w' => ∃ A c, e = .returned (.tuple #[.agg #[.int .i64 1, .slice A m c], .int .i64 0]) ∧ In w' A c (upTo m) ∧ Ext V w') := fun V => (refFirst_yes m V hm1 hm5).mono fun e w' ⟨v, he, ho, hx⟩ => by
    obtain ⟨A', c', rfl, hin⟩ := In.own (l := upTo m) (by rw [upTo_len]; exact ho)
    rw [upTo_len] at he
    exact ⟨A', c', he, hin, hx⟩
  have HTO : Hid (∀ V, Calls Try.prog 31 #[] V fun e w' => e = .returned (.bool true) ∧ Ext V w') := told13
  have HOK0 := Lib.hid (ok_new m hm1 hm5)
  have HS := Lib.hid hS
  obtain ⟨nn, hnn⟩ : ∃ n, n = xs.length := ⟨_, rfl⟩
  rw [← hnn] at hn ⊢
  have HN := Lib.hid hnn
  clear hS hnn hm1 hm5
  go_enter Try.func9, Try.ntmps9
  go_wp2_with (first
    | (go_at_call 26; (with_reducible refine CN.out.mono ?_); rintro e w1 ⟨a, rfl, hA, hx, hba⟩; have A1 := Lib.hid hA; have X1 := Lib.hid hx; have HBA : Hid (w.heap.size ≤ a) := hba; clear hA hx hba)
    | (go_at_call 38; (with_reducible refine (CF.out _).mono ?_); rintro e w2 ⟨A', c', rfl, hin, hx⟩; have I2 := Lib.hid hin; have A2 := Lib.hid (A1.out.stay hx); have X2 : Hid (Ext w w2) := Ext.trans X1.out hx; clear hin hx))
  obtain ⟨xa, hxa⟩ : ∃ xa, xa = w2.heap.size + 1 := ⟨_, rfl⟩
  have HI0 : Hid (PlI w ((w2.alloc (.cells #[.int .i64 1, .slice A' m c'] 26)).alloc (.cells #[.int .i64 m, .int .i64 1, .slice A' m c', .int .i64 0, .int .i64 0, .int .i64 0, .int .i64 0, .bool false, .int .i64 0, .slice none 0 0] 80)) a xa m) := by
    have hx : Ext w2 ((w2.alloc (.cells #[.int .i64 1, .slice A' m c'] 26)).alloc (.cells #[.int .i64 m, .int .i64 1, .slice A' m c', .int .i64 0, .int .i64 0, .int .i64 0, .int .i64 0, .bool false, .int .i64 0, .slice none 0 0] 80)) := Ext.trans (ext_al _ _) (ext_al _ _)
    refine ⟨_, A2.out.stay hx, ⟨A', c', none, 0, ?_, I2.out.stay hx, In.nil _⟩, HOK0.out, rfl, Ext.trans X2.out hx, HBA.out, ?_⟩
    · rw [hxa]; unfold acells; simp only [upTo_len]; exact Blk.new' _ _ _ _ (by simp)
    · have := X2.out.size; omega
  rw [← hxa]
  clear hxa
  go_loopw [5, 10] (fun bp i wr => ∃ (j b : Nat), j ≤ nn ∧ j ≤ 60 ∧ i = .int .i64 j ∧ bp = .pointer (some ⟨b, 0, none⟩) ∧ Hid (PlI w wr b xa m)) (fun _ i _ => nn - (intOf i).toNat)
  case atStart => exact ⟨0, a, Nat.zero_le _, by omega, rfl, rfl, HI0⟩
  case round =>
    clear HI0 A1 A2 X1 X2 I2 HBA
    obtain ⟨j, a, hj, hj60, rfl, rfl, HI⟩ := hrel
    by_cases hlt : j < nn ∧ j < 60
    · obtain ⟨op, hop⟩ : ∃ x, xs[j]? = some x := ⟨xs[j]'(by have := HN.out; omega), List.getElem?_eq_getElem _⟩
      obtain ⟨v, hA, hX, hok, hvn, hbw, hba, hbx⟩ := HI.out
      have hslw : Sl i64 w op.A op.l := by
        obtain ⟨b5, o5, e5, c5, h5, r5⟩ := HS.out j op hop
        exact h5
      obtain ⟨bl, o, rfl, hcells, hsl, hxok⟩ := (HS.out.stay hbw) j op hop
      obtain ⟨kind, ep0, br, bn, ep, OA, ocap, ol, veto⟩ := op
      obtain ⟨hb1, hb2, hb3, hb4, hcap, hcap9⟩ := hxok
      simp only at hcap hcap9 hsl hslw hvn hb1 hb4
      obtain ⟨nl, hnl⟩ : ∃ nl, nl = ol.length := ⟨_, rfl⟩
      have q0 := hcells 0 (by decide)
      have q1 := hcells 1 (by decide)
      have q2 := hcells 2 (by decide)
      have q3 := hcells 3 (by decide)
      have q4 := hcells 4 (by decide)
      have q5 := hcells 5 (by decide)
      have q6 := hcells 6 (by decide)
      simp [Op13.vals] at q0 q1 q2 q3 q4 q5 q6
      rw [← hnl] at q5
      have KOO : Hid (Blk (wr.alloc (.cells #[.int .i64 kind, .int .i64 ep0, .int .i64 br, .int .i64 bn, .int .i64 ep, .slice OA nl ocap, .bool veto] 59)) wr.heap.size 59 #[.int .i64 kind, .int .i64 ep0, .int .i64 br, .int .i64 bn, .int .i64 ep, .slice OA nl ocap, .bool veto]) := Blk.new _ _ _
      have o0 := KOO.out.cell 0
      have o1 := KOO.out.cell 1
      have o2 := KOO.out.cell 2
      have o3 := KOO.out.cell 3
      have o4 := KOO.out.cell 4
      have o5 := KOO.out.cell 5
      have o6 := KOO.out.cell 6
      simp at o0 o1 o2 o3 o4 o5 o6
      have KO : Hid (Below w.heap.size w (wr.alloc (.cells #[.int .i64 kind, .int .i64 ep0, .int .i64 br, .int .i64 bn, .int .i64 ep, .slice OA nl ocap, .bool veto] 59))) := Below.trans hbw (Below.mono (ext_al _ _) hbw.size)
      have HAO : Hid (AAt (wr.alloc (.cells #[.int .i64 kind, .int .i64 ep0, .int .i64 br, .int .i64 bn, .int .i64 ep, .slice OA nl ocap, .bool veto] 59)) a v) := hA.stay (ext_al _ _)
      have HXO : Hid (XAt (wr.alloc (.cells #[.int .i64 kind, .int .i64 ep0, .int .i64 br, .int .i64 bn, .int .i64 ep, .slice OA nl ocap, .bool veto] 59)) xa v) := hX.stay (ext_al _ _)
      have HOK := Lib.hid hok
      have HVN := Lib.hid hvn
      have BA : Hid (w.heap.size ≤ a) := hba
      have BX : Hid (w.heap.size ≤ xa) := hbx
      have HB1 := Lib.hid hb1
      have HB4 := Lib.hid hb4
      have HSLV : Hid (∀ V, Below w.heap.size w V → Sl i64 V OA ol) := fun V hV => hslw.stay hV
      have HNAa := Lib.hid (sl_na hslw hba)
      have HNL := Lib.hid hnl
      have HCAP : Hid (ol.length ≤ ocap) := hcap
      have HNO : Hid (¬ wr.heap.size = a ∧ ¬ wr.heap.size = xa) := by
        refine ⟨fun e => ?_, fun e => ?_⟩
        · have := hA.lt; omega
        · have := hX.lt; omega
      have hj1 : (j : Int) < (nn : Int) := by omega
      have hj2 : (j : Int) < 60 := by omega
      have hj0 : (0 : Int) ≤ (j : Int) := by omega
      clear hcells hsl hslw hA hX hok hvn hbw hba hbx hop hnl hcap HI hb1 hb2 hb3 hb4
      by_cases g2 : (8 : Int) < (nl : Int)
      · go_wp2_with (go_at_call 31; (with_reducible refine (HTO.out _).mono ?_); rintro e wt ⟨rfl, hx⟩; have KT : Hid (Below w.heap.size w wt) := Below.trans KO.out (Below.mono hx KO.out.size); clear hx)
        try go_ret
        exact hD.out _ _ ⟨rfl, KT.out⟩
      have HNL8 : Hid (ol.length ≤ 8) := by (show _ ≤ _); have := HNL.out; omega
      go_upto_region 14 with fail
      obtain ⟨W0, hW0⟩ : ∃ W0, W0 = (wr.alloc (.cells #[.int .i64 kind, .int .i64 ep0, .int .i64 br, .int .i64 bn, .int .i64 ep, .slice OA nl ocap, .bool veto] 59)) := ⟨_, rfl⟩
      have A0 : Hid (AAt W0 a v) := by (show AAt _ _ _); rw [hW0]; exact HAO.out
      have X0 : Hid (XAt W0 xa v) := by (show XAt _ _ _); rw [hW0]; exact HXO.out
      have KO0 : Hid (Blk W0 wr.heap.size 59 #[.int .i64 kind, .int .i64 ep0, .int .i64 br, .int .i64 bn, .int .i64 ep, .slice OA nl ocap, .bool veto]) := by (show Blk _ _ _ _); rw [hW0]; exact KOO.out
      have KW : Hid (Below w.heap.size w W0) := by (show Below _ _ _); rw [hW0]; exact KO.out
      try rw [← hW0]
      clear hW0 o0 o1 o2 o3 o4 o5 o6 q0 q1 q2 q3 q4 q5 q6
      have z0 : W0.cell? ⟨wr.heap.size, 0, none⟩ = some (.int .i64 kind) := KO0.out.cell 0
      have z1 : W0.cell? ⟨wr.heap.size, 1, none⟩ = some (.int .i64 ep0) := KO0.out.cell 1
      have z2 : W0.cell? ⟨wr.heap.size, 2, none⟩ = some (.int .i64 br) := KO0.out.cell 2
      have z3 : W0.cell? ⟨wr.heap.size, 3, none⟩ = some (.int .i64 bn) := KO0.out.cell 3
      have z4 : W0.cell? ⟨wr.heap.size, 4, none⟩ = some (.int .i64 ep) := KO0.out.cell 4
      have z5 : W0.cell? ⟨wr.heap.size, 5, none⟩ = some (.slice OA nl ocap) := KO0.out.cell 5
      have z6 : W0.cell? ⟨wr.heap.size, 6, none⟩ = some (.bool veto) := KO0.out.cell 6
      by_cases k0 : kind = 0
      · subst k0
        obtain ⟨R, hR⟩ : ∃ R, R = prepR v ep0 br bn := ⟨_, rfl⟩
        obtain ⟨rl, hrl⟩ : ∃ r, r = R.vns.length := ⟨_, rfl⟩
        have HRL : Hid (R.vns.length ≤ 1000000) := by
          show _ ≤ _
          rw [hR]; unfold prepR
          split
          · exact HOK.out.vl
          · simp
        have CPa : Hid (Calls Try.prog 27 #[.pointer (some ⟨a, 0, none⟩), .int .i64 ep0, .agg #[.int .i64 br, .int .i64 bn]] W0 fun e w' => ∃ (A : Option Addr) (c : Nat), e = .returned (.tuple #[.agg #[.int .i64 R.pr, .int .i64 R.pn, .int .i64 R.ar, .int .i64 R.an, .bool R.has, .int .i64 R.vep, .slice A rl c], .int .i64 (prepE v ep0 br bn)]) ∧ In w' A c R.vns ∧ AAt w' a (prepV v ep0 br bn) ∧ Frm (oneA a) W0 w') := by rw [hrl, hR]; exact prep_any a v ep0 br bn W0 A0.out HOK.out
        have CPb : Hid (∀ V, XAt V xa v → Calls Try.prog 39 #[.pointer (some ⟨xa, 0, none⟩), .int .i64 ep0, .agg #[.int .i64 br, .int .i64 bn]] V fun e w' => ∃ (A : Option Addr) (c : Nat), e = .returned (.tuple #[.agg #[.int .i64 R.pr, .int .i64 R.pn, .int .i64 R.ar, .int .i64 R.an, .bool R.has, .int .i64 R.vep, .slice A rl c], .int .i64 (prepE v ep0 br bn)]) ∧ In w' A c R.vns ∧ XAt w' xa (prepV v ep0 br bn) ∧ Frm (oneA xa) V w') := fun V h => by rw [hrl, hR]; exact rprep_any xa v ep0 br bn V h HOK.out HB1.out
        have CSV : Hid (∀ V A c A' c', In V A c R.vns → In V A' c' R.vns → Calls Try.prog 33 #[.agg #[.int .i64 R.pr, .int .i64 R.pn, .int .i64 R.ar, .int .i64 R.an, .bool R.has, .int .i64 R.vep, .slice A rl c], .agg #[.int .i64 R.pr, .int .i64 R.pn, .int .i64 R.ar, .int .i64 R.an, .bool R.has, .int .i64 R.vep, .slice A' rl c']] V fun e w' => e = .returned (.bool true) ∧ Ext V w') := fun V A c A' c' h1 h2 => by rw [hrl]; exact sameVote_eq _ _ _ _ _ _ A A' c c' R.vns V HRL.out h1.sl h2.sl
        have HOKn := Lib.hid (HOK.out.prep ep0 br bn)
        have HVNn : Hid ((prepV v ep0 br bn).n = m) := by (show _ = _); unfold prepV; split <;> exact HVN.out
        generalize prepE v ep0 br bn = pe at *
        generalize prepV v ep0 br bn = vp at *
        have CSM : Hid (∀ V, AAt V a vp → XAt V xa vp → Calls Try.prog 43 #[.pointer (some ⟨a, 0, none⟩), .pointer (some ⟨xa, 0, none⟩)] V fun e w' => e = .returned (.bool true) ∧ Ext V w') := fun V h1 h2 => same13_any a xa vp V h1 h2 HOKn.out
        clear hR hrl
        go_wp2_with (first
          | (go_at_call 43; (with_reducible refine (CSM.out _ (A2.out.stay X3.out) (X2.out.stay X3.out)).mono ?_); rintro e w4 ⟨rfl, hx⟩; have X4 : Hid (Ext w2 w4) := Ext.trans X3.out hx; clear hx)
          | (go_at_call 33; (with_reducible refine (CSV.out _ _ _ _ _ (I7'.out.stay (ext_al _ _)) (I8.out.stay (ext_al _ _))).mono ?_); rintro e w3 ⟨rfl, hx⟩; have X3 : Hid (Ext w2 w3) := Ext.trans (ext_al _ _) hx; clear hx)
          | (go_at_call 39; (with_reducible refine (CPb.out _ (X1.out.stay (ext_al _ _))).mono ?_); rintro e w2 ⟨A8, c8, rfl, hin, hX, hf⟩; have I8 := Lib.hid hin; have X2 := Lib.hid hX; have X1' : Hid (XAt (w1.alloc (.cells #[.int .i64 R.pr, .int .i64 R.pn, .int .i64 R.ar, .int .i64 R.an, .bool R.has, .int .i64 R.vep, .slice A7 rl c7] 40)) xa v) := X1.out.stay (ext_al _ _); have KV1 : Hid (Blk (w1.alloc (.cells #[.int .i64 R.pr, .int .i64 R.pn, .int .i64 R.ar, .int .i64 R.an, .bool R.has, .int .i64 R.vep, .slice A7 rl c7] 40)) w1.heap.size 40 #[.int .i64 R.pr, .int .i64 R.pn, .int .i64 R.ar, .int .i64 R.an, .bool R.has, .int .i64 R.vep, .slice A7 rl c7]) := Blk.new _ _ _; have KV2 := Lib.hid (KV1.out.frm hf (X1'.out.ne KV1.out (by decide))); have A2 : Hid (AAt w2 a vp) := AAt.x (A1.out.stay (ext_al _ _)) X1'.out hf; have I7' : Hid (In w2 A7 c7 R.vns) := X1'.out.in_ (I7.out.stay (ext_al _ _)) hf; have F2 : Hid (Frm (oneA xa) (w1.alloc (.cells #[.int .i64 R.pr, .int .i64 R.pn, .int .i64 R.ar, .int .i64 R.an, .bool R.has, .int .i64 R.vep, .slice A7 rl c7] 40)) w2) := hf; have v0 : ∀ o', (w2.alloc o').cell? ⟨w1.heap.size, 0, none⟩ = some (.int .i64 R.pr) := fun o' => (KV2.out.stay (ext_al _ o')).cell 0; have v1 : ∀ o', (w2.alloc o').cell? ⟨w1.heap.size, 1, none⟩ = some (.int .i64 R.pn) := fun o' => (KV2.out.stay (ext_al _ o')).cell 1; have v2 : ∀ o', (w2.alloc o').cell? ⟨w1.heap.size, 2, none⟩ = some (.int .i64 R.ar) := fun o' => (KV2.out.stay (ext_al _ o')).cell 2; have v3 : ∀ o', (w2.alloc o').cell? ⟨w1.heap.size, 3, none⟩ = some (.int .i64 R.an) := fun o' => (KV2.out.stay (ext_al _ o')).cell 3; have v4 : ∀ o', (w2.alloc o').cell? ⟨w1.heap.size, 4, none⟩ = some (.bool R.has) := fun o' => (KV2.out.stay (ext_al _ o')).cell 4; have v5 : ∀ o', (w2.alloc o').cell? ⟨w1.heap.size, 5, none⟩ = some (.int .i64 R.vep) := fun o' => (KV2.out.stay (ext_al _ o')).cell 5; have v6 : ∀ o', (w2.alloc o').cell? ⟨w1.heap.size, 6, none⟩ = some (.slice A7 rl c7) := fun o' => (KV2.out.stay (ext_al _ o')).cell 6; clear hin hX hf)
          | (go_at_call 27; (with_reducible refine CPa.out.mono ?_); rintro e w1 ⟨A7, c7, rfl, hin, hA, hf⟩; have I7 := Lib.hid hin; have A1 := Lib.hid hA; have F1 := Lib.hid hf; have X1 := Lib.hid (X0.out.a A0.out hf); have KO1 := Lib.hid (KO0.out.frm hf (HNO.out).1); have W1h : Hid (Below w.heap.size w w1) := Frm.step KW.out hf KW.out.size (fun k hk => by rw [hk]; exact BA.out); have y1 : ∀ o', (w1.alloc o').cell? ⟨wr.heap.size, 1, none⟩ = some (.int .i64 ep0) := fun o' => (KO1.out.stay (ext_al _ o')).cell 1; have y2 : ∀ o', (w1.alloc o').cell? ⟨wr.heap.size, 2, none⟩ = some (.int .i64 br) := fun o' => (KO1.out.stay (ext_al _ o')).cell 2; have y3 : ∀ o', (w1.alloc o').cell? ⟨wr.heap.size, 3, none⟩ = some (.int .i64 bn) := fun o' => (KO1.out.stay (ext_al _ o')).cell 3; clear hin hA hf))
        have W1 := W1h.out
        have W2 : Below w.heap.size w w2 := Frm.step (Below.trans W1 (Below.mono (ext_al _ _) W1.size)) F2.out (Nat.le_trans W1.size (ext_al _ _).size) (fun k hk => by rw [hk]; exact BX.out)
        have HE : PlI w w4 a xa m := ⟨vp, A2.out.stay X4.out, X2.out.stay X4.out, HOKn.out, HVNn.out, Below.trans W2 (Below.mono X4.out W2.size), BA.out, BX.out⟩
        go_roundw
        case rel => exact ⟨j + 1, a, by omega, by omega, by go_num, rfl, by first | exact HE | exact HE.drewN⟩
        case measure => simp [intOf]; omega
      · by_cases k1 : kind = 1
        · subst k1
          have Ca : Hid (∀ V, AAt V a v → Below w.heap.size w V → Calls Try.prog 32 #[.pointer (some ⟨a, 0, none⟩), .agg #[.int .i64 ep, .slice OA nl ocap], .agg #[.int .i64 br, .int .i64 bn], .bool veto] V fun e w' => e = .returned (.int .i64 (accE v ep ol br bn veto)) ∧ AAt w' a (accV v ep ol br bn veto) ∧ Frm (oneA a) V w') := fun V h hb => by rw [HNL.out]; exact acc_any a v ep br bn OA ocap ol veto V h HOK.out (by have := HNL8.out; omega) HCAP.out (HSLV.out _ hb) HNAa.out
          have Cb : Hid (∀ V, XAt V xa v → Below w.heap.size w V → Calls Try.prog 40 #[.pointer (some ⟨xa, 0, none⟩), .agg #[.int .i64 ep, .slice OA nl ocap], .agg #[.int .i64 br, .int .i64 bn], .bool veto] V fun e w' => e = .returned (.int .i64 (accE v ep ol br bn veto)) ∧ XAt w' xa (accV v ep ol br bn veto) ∧ Frm (oneA xa) V w') := fun V h hb => by rw [HNL.out]; exact racc_any xa v ep br bn OA ocap ol veto V h HOK.out (by have := HNL8.out; omega) (HSLV.out _ hb) HB4.out
          have HOKn := Lib.hid (HOK.out.acc ep ol br bn veto)
          have HVNn : Hid ((accV v ep ol br bn veto).n = m) := by (show _ = _); unfold accV; split <;> exact HVN.out
          generalize accE v ep ol br bn veto = pe at *
          generalize accV v ep ol br bn veto = vp at *
          have CSM : Hid (∀ V, AAt V a vp → XAt V xa vp → Calls Try.prog 43 #[.pointer (some ⟨a, 0, none⟩), .pointer (some ⟨xa, 0, none⟩)] V fun e w' => e = .returned (.bool true) ∧ Ext V w') := fun V h1 h2 => same13_any a xa vp V h1 h2 HOKn.out
          go_wp2_with fail
          have E0 : Hid (Frm (fun k => k = a ∨ k = xa) W0 W0.drew) := (Frm.refl _ _).drew
          have y2 : ∀ V, Frm (fun k => k = a ∨ k = xa) W0 V → V.cell? ⟨wr.heap.size, 2, none⟩ = some (.int .i64 br) := fun V h => (KO0.out.frm h (fun e => by rcases e with e | e; exact HNO.out.1 e; exact HNO.out.2 e)).cell 2
          have y3 : ∀ V, Frm (fun k => k = a ∨ k = xa) W0 V → V.cell? ⟨wr.heap.size, 3, none⟩ = some (.int .i64 bn) := fun V h => (KO0.out.frm h (fun e => by rcases e with e | e; exact HNO.out.1 e; exact HNO.out.2 e)).cell 3
          have y4 : ∀ V, Frm (fun k => k = a ∨ k = xa) W0 V → V.cell? ⟨wr.heap.size, 4, none⟩ = some (.int .i64 ep) := fun V h => (KO0.out.frm h (fun e => by rcases e with e | e; exact HNO.out.1 e; exact HNO.out.2 e)).cell 4
          have y5 : ∀ V, Frm (fun k => k = a ∨ k = xa) W0 V → V.cell? ⟨wr.heap.size, 5, none⟩ = some (.slice OA nl ocap) := fun V h => (KO0.out.frm h (fun e => by rcases e with e | e; exact HNO.out.1 e; exact HNO.out.2 e)).cell 5
          have y6 : ∀ V, Frm (fun k => k = a ∨ k = xa) W0 V → V.cell? ⟨wr.heap.size, 6, none⟩ = some (.bool veto) := fun V h => (KO0.out.frm h (fun e => by rcases e with e | e; exact HNO.out.1 e; exact HNO.out.2 e)).cell 6
          clear z0 z1 z2 z3 z4 z5 z6
          refine rz_begin ((fun k => k = a ∨ k = xa)) [] (by kernel_rfl) ?_
          refine rz_take [7, 15, 16] (i := 0) (v := ?_) rfl (by kernel_rfl) (by kernel_rfl) (by kernel_rfl) (by kernel_rfl) (by kernel_rfl) (by kernel_rfl) (fun _ _ _ h => h) (by rfl) ?_ ?_
          rotate_left
          · intro W hW; have hW0 := Frm.tr E0.out hW; clear hW; go_simp <;> with_reducible rfl
          try simp only [Act.put, List.setIfInBounds_toArray, List.set_cons_zero, List.set_cons_succ]
          refine rz_take [2, 7, 15, 16] (i := 1) (v := ?_) rfl (by kernel_rfl) (by kernel_rfl) (by kernel_rfl) (by kernel_rfl) (by kernel_rfl) (by kernel_rfl) (fun _ _ _ h => h) (by rfl) ?_ ?_
          rotate_left
          · intro W hW; have hW0 := Frm.tr E0.out hW; clear hW; go_simp <;> with_reducible rfl
          try simp only [Act.put, List.setIfInBounds_toArray, List.set_cons_zero, List.set_cons_succ]
          refine rz_take [7, 15, 16] (i := 2) (v := ?_) rfl (by kernel_rfl) (by kernel_rfl) (by kernel_rfl) (by kernel_rfl) (by kernel_rfl) (by kernel_rfl) (fun _ _ _ h => h) (by rfl) ?_ ?_
          rotate_left
          · intro W hW; have hW0 := Frm.tr E0.out hW; clear hW; go_simp <;> with_reducible rfl
          try simp only [Act.put, List.setIfInBounds_toArray, List.set_cons_zero, List.set_cons_succ]
          refine rz_take [4, 7, 15, 16] (i := 3) (v := ?_) rfl (by kernel_rfl) (by kernel_rfl) (by kernel_rfl) (by kernel_rfl) (by kernel_rfl) (by kernel_rfl) (fun _ _ _ h => h) (by rfl) ?_ ?_
          rotate_left
          · intro W hW; have hW0 := Frm.tr E0.out hW; clear hW; go_simp <;> with_reducible rfl
          try simp only [Act.put, List.setIfInBounds_toArray, List.set_cons_zero, List.set_cons_succ]
          refine rz_take [7, 15, 16] (i := 4) (v := ?_) rfl (by kernel_rfl) (by kernel_rfl) (by kernel_rfl) (by kernel_rfl) (by kernel_rfl) (by kernel_rfl) (fun _ _ _ h => h) (by rfl) ?_ ?_
          rotate_left
          · intro W hW; have hW0 := Frm.tr E0.out hW; clear hW; go_simp <;> with_reducible rfl
          try simp only [Act.put, List.setIfInBounds_toArray, List.set_cons_zero, List.set_cons_succ]
          refine rz_take [6, 7, 15, 16] (i := 5) (v := ?_) rfl (by kernel_rfl) (by kernel_rfl) (by kernel_rfl) (by kernel_rfl) (by kernel_rfl) (by kernel_rfl) (fun _ _ _ h => h) (by rfl) ?_ ?_
          rotate_left
          · intro W hW; have hW0 := Frm.tr E0.out hW; clear hW; go_simp <;> with_reducible rfl
          try simp only [Act.put, List.setIfInBounds_toArray, List.set_cons_zero, List.set_cons_succ]
          refine rz_take [7, 15, 16] (i := 6) (v := ?_) rfl (by kernel_rfl) (by kernel_rfl) (by kernel_rfl) (by kernel_rfl) (by kernel_rfl) (by kernel_rfl) (fun _ _ _ h => h) (by rfl) ?_ ?_
          rotate_left
          · intro W hW; have hW0 := Frm.tr E0.out hW; clear hW; go_simp <;> with_reducible rfl
          try simp only [Act.put, List.setIfInBounds_toArray, List.set_cons_zero, List.set_cons_succ]
          refine rz_take [15, 16] (i := 8) (v := ?_) rfl (by kernel_rfl) (by kernel_rfl) (by kernel_rfl) (by kernel_rfl) (by kernel_rfl) (by kernel_rfl) (fun _ _ _ h => h) (by rfl) ?_ ?_
          rotate_left
          · intro W hW; have hW0 := Frm.tr E0.out hW; clear hW; go_simp <;> with_reducible rfl
          try simp only [Act.put, List.setIfInBounds_toArray, List.set_cons_zero, List.set_cons_succ]
          refine rz_take [10, 15, 16] (i := 9) (v := ?_) rfl (by kernel_rfl) (by kernel_rfl) (by kernel_rfl) (by kernel_rfl) (by kernel_rfl) (by kernel_rfl) (fun _ _ _ h => h) (by rfl) ?_ ?_
          rotate_left
          · intro W hW; have hW0 := Frm.tr E0.out hW; clear hW; go_simp <;> with_reducible rfl
          try simp only [Act.put, List.setIfInBounds_toArray, List.set_cons_zero, List.set_cons_succ]
          refine rz_take [15, 16] (i := 10) (v := ?_) rfl (by kernel_rfl) (by kernel_rfl) (by kernel_rfl) (by kernel_rfl) (by kernel_rfl) (by kernel_rfl) (fun _ _ _ h => h) (by rfl) ?_ ?_
          rotate_left
          · intro W hW; have hW0 := Frm.tr E0.out hW; clear hW; go_simp <;> with_reducible rfl
          try simp only [Act.put, List.setIfInBounds_toArray, List.set_cons_zero, List.set_cons_succ]
          refine rz_take [12, 15, 16] (i := 11) (v := ?_) rfl (by kernel_rfl) (by kernel_rfl) (by kernel_rfl) (by kernel_rfl) (by kernel_rfl) (by kernel_rfl) (fun _ _ _ h => h) (by rfl) ?_ ?_
          rotate_left
          · intro W hW; have hW0 := Frm.tr E0.out hW; clear hW; go_simp <;> with_reducible rfl
          try simp only [Act.put, List.setIfInBounds_toArray, List.set_cons_zero, List.set_cons_succ]
          refine rz_take [15, 16] (i := 12) (v := ?_) rfl (by kernel_rfl) (by kernel_rfl) (by kernel_rfl) (by kernel_rfl) (by kernel_rfl) (by kernel_rfl) (fun _ _ _ h => h) (by rfl) ?_ ?_
          rotate_left
          · intro W hW; have hW0 := Frm.tr E0.out hW; clear hW; go_simp <;> with_reducible rfl
          try simp only [Act.put, List.setIfInBounds_toArray, List.set_cons_zero, List.set_cons_succ]
          refine rz_take [14, 15, 16] (i := 13) (v := ?_) rfl (by kernel_rfl) (by kernel_rfl) (by kernel_rfl) (by kernel_rfl) (by kernel_rfl) (by kernel_rfl) (fun _ _ _ h => h) (by rfl) ?_ ?_
          rotate_left
          · intro W hW; have hW0 := Frm.tr E0.out hW; clear hW; go_simp <;> with_reducible rfl
          try simp only [Act.put, List.setIfInBounds_toArray, List.set_cons_zero, List.set_cons_succ]
          refine rz_take [15, 16] (i := 14) (v := ?_) rfl (by kernel_rfl) (by kernel_rfl) (by kernel_rfl) (by kernel_rfl) (by kernel_rfl) (by kernel_rfl) (fun _ _ _ h => h) (by rfl) ?_ ?_
          rotate_left
          · intro W hW; have hW0 := Frm.tr E0.out hW; clear hW; go_simp <;> with_reducible rfl
          try simp only [Act.put, List.setIfInBounds_toArray, List.set_cons_zero, List.set_cons_succ]
          refine rz_call (i := 7) rfl (by kernel_rfl) (by rfl) (fun K hK => ?_)
          go_simp
          go_at_call 32
          with_reducible refine (Ca.out _ (A0.out.stay (Ext.drewR (Ext.refl _))) (KW.out.drew)).mono ?_
          rintro e w1 ⟨rfl, hA, hf⟩
          refine hK _ _ (hf.mono (fun k hk => Or.inl hk)) ?_; clear hK K
          have A1 := Lib.hid hA
          have F1 : Hid (Frm (oneA a) W0 w1) := Frm.tr ((Frm.refl _ _).drew) hf
          have X1 := Lib.hid (X0.out.a A0.out F1.out)
          have W1 : Hid (Below w.heap.size w w1) := Frm.step KW.out F1.out KW.out.size (fun k hk => by rw [hk]; exact BA.out)
          have E1 : Hid (Frm (fun k => k = a ∨ k = xa) W0 w1) := F1.out.mono (fun k hk => Or.inl hk)
          clear hA hf
          try simp only [Act.put, List.setIfInBounds_toArray, List.set_cons_zero, List.set_cons_succ]
          refine rz_call (i := 15) rfl (by kernel_rfl) (by rfl) (fun K hK => ?_)
          go_simp
          go_at_call 40
          with_reducible refine (Cb.out _ X1.out W1.out).mono ?_
          rintro e w2 ⟨rfl, hA, hf⟩
          refine hK _ _ (hf.mono (fun k hk => Or.inr hk)) ?_; clear hK K
          have X2 := Lib.hid hA
          have F2 := Lib.hid hf
          have E2 : Hid (Frm (fun k => k = a ∨ k = xa) W0 w2) := Frm.tr E1.out (hf.mono (fun k hk => Or.inr hk))
          clear hA hf
          try simp only [Act.put, List.setIfInBounds_toArray, List.set_cons_zero, List.set_cons_succ]
          refine rz_take [] (i := 16) (v := ?_) rfl (by kernel_rfl) (by kernel_rfl) (by kernel_rfl) (by kernel_rfl) (by kernel_rfl) (by kernel_rfl) (fun _ _ _ h => h) (by rfl) ?_ ?_
          rotate_left
          · intro W hW; have hW0 := Frm.tr E2.out hW; clear hW; go_simp <;> with_reducible rfl
          try simp only [Act.put, List.setIfInBounds_toArray, List.set_cons_zero, List.set_cons_succ]
          refine rz_done (by kernel_rfl) ?_ _
          have A2 := Lib.hid (A1.out.x X1.out F2.out)
          clear y2 y3 y4 y5 y6
          go_wp2_with (go_at_call 43; (with_reducible refine (CSM.out _ A2.out X2.out).mono ?_); rintro e w4 ⟨rfl, hx⟩; have X4 : Hid (Ext w2 w4) := hx; clear hx)
          have W2 : Below w.heap.size w w2 := Frm.step W1.out F2.out W1.out.size (fun k hk => by rw [hk]; exact BX.out)
          have HE : PlI w w4 a xa m := ⟨vp, A2.out.stay X4.out, X2.out.stay X4.out, HOKn.out, HVNn.out, Below.trans W2 (Below.mono X4.out W2.size), BA.out, BX.out⟩
          go_roundw
          case rel => exact ⟨j + 1, a, by omega, by omega, by go_num, rfl, by first | exact HE | exact HE.drewN⟩
          case measure => simp [intOf]; omega
        · by_cases k2 : kind = 2
          · subst k2
            have Ca : Hid (∀ V, AAt V a v → Below w.heap.size w V → Calls Try.prog 28 #[.pointer (some ⟨a, 0, none⟩), .agg #[.int .i64 ep, .slice OA nl ocap]] V fun e w' => e = .returned (.int .i64 (learnE v ep ol)) ∧ AAt w' a (learnV v ep ol) ∧ Frm (oneA a) V w') := fun V h hb => by rw [HNL.out]; exact learn_any a v ep OA ocap ol V h HOK.out (by have := HNL8.out; omega) HCAP.out (HSLV.out _ hb) HNAa.out
            have Cb : Hid (∀ V, XAt V xa v → Below w.heap.size w V → Calls Try.prog 41 #[.pointer (some ⟨xa, 0, none⟩), .agg #[.int .i64 ep, .slice OA nl ocap]] V fun e w' => e = .returned (.int .i64 (learnE v ep ol)) ∧ XAt w' xa (learnV v ep ol) ∧ Frm (oneA xa) V w') := fun V h hb => by rw [HNL.out]; exact rlearn_any xa v ep OA ocap ol V h HOK.out (by have := HNL8.out; omega) (HSLV.out _ hb) HB4.out
            have HOKn := Lib.hid (HOK.out.learn ep ol)
            have HVNn : Hid ((learnV v ep ol).n = m) := by (show _ = _); unfold learnV; split <;> exact HVN.out
            generalize learnE v ep ol = pe at *
            generalize learnV v ep ol = vp at *
            have CSM : Hid (∀ V, AAt V a vp → XAt V xa vp → Calls Try.prog 43 #[.pointer (some ⟨a, 0, none⟩), .pointer (some ⟨xa, 0, none⟩)] V fun e w' => e = .returned (.bool true) ∧ Ext V w') := fun V h1 h2 => same13_any a xa vp V h1 h2 HOKn.out
            go_wp2_with fail
            have E0 : Hid (Frm (fun k => k = a ∨ k = xa) W0 W0.drew) := (Frm.refl _ _).drew
            have y4 : ∀ V, Frm (fun k => k = a ∨ k = xa) W0 V → V.cell? ⟨wr.heap.size, 4, none⟩ = some (.int .i64 ep) := fun V h => (KO0.out.frm h (fun e => by rcases e with e | e; exact HNO.out.1 e; exact HNO.out.2 e)).cell 4
            have y5 : ∀ V, Frm (fun k => k = a ∨ k = xa) W0 V → V.cell? ⟨wr.heap.size, 5, none⟩ = some (.slice OA nl ocap) := fun V h => (KO0.out.frm h (fun e => by rcases e with e | e; exact HNO.out.1 e; exact HNO.out.2 e)).cell 5
            clear z0 z1 z2 z3 z4 z5 z6
            refine rz_begin ((fun k => k = a ∨ k = xa)) [] (by kernel_rfl) ?_
            refine rz_take [3, 7, 8] (i := 0) (v := ?_) rfl (by kernel_rfl) (by kernel_rfl) (by kernel_rfl) (by kernel_rfl) (by kernel_rfl) (by kernel_rfl) (fun _ _ _ h => h) (by rfl) ?_ ?_
            rotate_left
            · intro W hW; have hW0 := Frm.tr E0.out hW; clear hW; go_simp <;> with_reducible rfl
            try simp only [Act.put, List.setIfInBounds_toArray, List.set_cons_zero, List.set_cons_succ]
            refine rz_take [2, 3, 7, 8] (i := 1) (v := ?_) rfl (by kernel_rfl) (by kernel_rfl) (by kernel_rfl) (by kernel_rfl) (by kernel_rfl) (by kernel_rfl) (fun _ _ _ h => h) (by rfl) ?_ ?_
            rotate_left
            · intro W hW; have hW0 := Frm.tr E0.out hW; clear hW; go_simp <;> with_reducible rfl
            try simp only [Act.put, List.setIfInBounds_toArray, List.set_cons_zero, List.set_cons_succ]
            refine rz_take [3, 7, 8] (i := 2) (v := ?_) rfl (by kernel_rfl) (by kernel_rfl) (by kernel_rfl) (by kernel_rfl) (by kernel_rfl) (by kernel_rfl) (fun _ _ _ h => h) (by rfl) ?_ ?_
            rotate_left
            · intro W hW; have hW0 := Frm.tr E0.out hW; clear hW; go_simp <;> with_reducible rfl
            try simp only [Act.put, List.setIfInBounds_toArray, List.set_cons_zero, List.set_cons_succ]
            refine rz_take [7, 8] (i := 4) (v := ?_) rfl (by kernel_rfl) (by kernel_rfl) (by kernel_rfl) (by kernel_rfl) (by kernel_rfl) (by kernel_rfl) (fun _ _ _ h => h) (by rfl) ?_ ?_
            rotate_left
            · intro W hW; have hW0 := Frm.tr E0.out hW; clear hW; go_simp <;> with_reducible rfl
            try simp only [Act.put, List.setIfInBounds_toArray, List.set_cons_zero, List.set_cons_succ]
            refine rz_take [6, 7, 8] (i := 5) (v := ?_) rfl (by kernel_rfl) (by kernel_rfl) (by kernel_rfl) (by kernel_rfl) (by kernel_rfl) (by kernel_rfl) (fun _ _ _ h => h) (by rfl) ?_ ?_
            rotate_left
            · intro W hW; have hW0 := Frm.tr E0.out hW; clear hW; go_simp <;> with_reducible rfl
            try simp only [Act.put, List.setIfInBounds_toArray, List.set_cons_zero, List.set_cons_succ]
            refine rz_take [7, 8] (i := 6) (v := ?_) rfl (by kernel_rfl) (by kernel_rfl) (by kernel_rfl) (by kernel_rfl) (by kernel_rfl) (by kernel_rfl) (fun _ _ _ h => h) (by rfl) ?_ ?_
            rotate_left
            · intro W hW; have hW0 := Frm.tr E0.out hW; clear hW; go_simp <;> with_reducible rfl
            try simp only [Act.put, List.setIfInBounds_toArray, List.set_cons_zero, List.set_cons_succ]
            refine rz_call (i := 3) rfl (by kernel_rfl) (by rfl) (fun K hK => ?_)
            go_simp
            go_at_call 28
            with_reducible refine (Ca.out _ (A0.out.stay (Ext.drewR (Ext.refl _))) (KW.out.drew)).mono ?_
            rintro e w1 ⟨rfl, hA, hf⟩
            refine hK _ _ (hf.mono (fun k hk => Or.inl hk)) ?_; clear hK K
            have A1 := Lib.hid hA
            have F1 : Hid (Frm (oneA a) W0 w1) := Frm.tr ((Frm.refl _ _).drew) hf
            have X1 := Lib.hid (X0.out.a A0.out F1.out)
            have W1 : Hid (Below w.heap.size w w1) := Frm.step KW.out F1.out KW.out.size (fun k hk => by rw [hk]; exact BA.out)
            have E1 : Hid (Frm (fun k => k = a ∨ k = xa) W0 w1) := F1.out.mono (fun k hk => Or.inl hk)
            clear hA hf
            try simp only [Act.put, List.setIfInBounds_toArray, List.set_cons_zero, List.set_cons_succ]
            refine rz_call (i := 7) rfl (by kernel_rfl) (by rfl) (fun K hK => ?_)
            go_simp
            go_at_call 41
            with_reducible refine (Cb.out _ X1.out W1.out).mono ?_
            rintro e w2 ⟨rfl, hA, hf⟩
            refine hK _ _ (hf.mono (fun k hk => Or.inr hk)) ?_; clear hK K
            have X2 := Lib.hid hA
            have F2 := Lib.hid hf
            have E2 : Hid (Frm (fun k => k = a ∨ k = xa) W0 w2) := Frm.tr E1.out (hf.mono (fun k hk => Or.inr hk))
            clear hA hf
            try simp only [Act.put, List.setIfInBounds_toArray, List.set_cons_zero, List.set_cons_succ]
            refine rz_take [] (i := 8) (v := ?_) rfl (by kernel_rfl) (by kernel_rfl) (by kernel_rfl) (by kernel_rfl) (by kernel_rfl) (by kernel_rfl) (fun _ _ _ h => h) (by rfl) ?_ ?_
            rotate_left
            · intro W hW; have hW0 := Frm.tr E2.out hW; clear hW; go_simp <;> with_reducible rfl
            try simp only [Act.put, List.setIfInBounds_toArray, List.set_cons_zero, List.set_cons_succ]
            refine rz_done (by kernel_rfl) ?_ _
            have A2 := Lib.hid (A1.out.x X1.out F2.out)
            clear y4 y5
            go_wp2_with (go_at_call 43; (with_reducible refine (CSM.out _ A2.out X2.out).mono ?_); rintro e w4 ⟨rfl, hx⟩; have X4 : Hid (Ext w2 w4) := hx; clear hx)
            have W2 : Below w.heap.size w w2 := Frm.step W1.out F2.out W1.out.size (fun k hk => by rw [hk]; exact BX.out)
            have HE : PlI w w4 a xa m := ⟨vp, A2.out.stay X4.out, X2.out.stay X4.out, HOKn.out, HVNn.out, Below.trans W2 (Below.mono X4.out W2.size), BA.out, BX.out⟩
            go_roundw
            case rel => exact ⟨j + 1, a, by omega, by omega, by go_num, rfl, by first | exact HE | exact HE.drewN⟩
            case measure => simp [intOf]; omega
          · obtain ⟨SB, hSB⟩ : ∃ SB, SB = bytesA v := ⟨_, rfl⟩
            have CBY : Hid (Calls Try.prog 37 #[.pointer (some ⟨a, 0, none⟩)] W0 fun e w' => ∃ A c, e = .returned (.slice A SB.length c) ∧ Sl u8 w' A SB ∧ Ext W0 w') := by rw [hSB]; exact bytesA_any a v _ A0.out HOK.out
            have CLD : Hid (∀ V A c, Sl u8 V A SB → Calls Try.prog 42 #[.int .i64 m, .slice A SB.length c] V fun e w' => ∃ a, e = .returned (.tuple #[.pointer (some ⟨a, 0, none⟩), .int .i64 0]) ∧ AAt w' a v ∧ Ext V w' ∧ V.heap.size ≤ a) := fun V A c h => by rw [hSB] at h ⊢; exact load_any m v A c V HOK.out HVN.out h
            have CSM : Hid (∀ V b, AAt V b v → XAt V xa v → Calls Try.prog 43 #[.pointer (some ⟨b, 0, none⟩), .pointer (some ⟨xa, 0, none⟩)] V fun e w' => e = .returned (.bool true) ∧ Ext V w') := fun V b h1 h2 => same13_any b xa v V h1 h2 HOK.out
            clear hSB
            go_wp2_with (first
              | (go_at_call 37; (with_reducible refine CBY.out.mono ?_); rintro e w4 ⟨A4, c4, rfl, hs, hx⟩; have S4 := Lib.hid hs; have X4 := Lib.hid hx; clear hs hx)
              | (go_at_call 42; (with_reducible refine (CLD.out _ _ _ S4.out).mono ?_); rintro e w5 ⟨bb, rfl, hA, hx, hba⟩; have B0 := Lib.hid hA; have X5 : Hid (Ext W0 w5) := Ext.trans X4.out hx; have HB5 : Hid (w4.heap.size ≤ bb) := hba; clear hA hx hba)
              | (go_at_call 43; (with_reducible refine (CSM.out _ _ B0.out (X0.out.stay X5.out)).mono ?_); rintro e w6 ⟨rfl, hx⟩; have X6 := Lib.hid hx; clear hx))
            have X7 : Ext W0 w6 := Ext.trans X5.out X6.out
            have HE : PlI w w6 bb xa m := ⟨v, B0.out.stay X6.out, X0.out.stay X7, HOK.out, HVN.out, Below.trans KW.out (Below.mono X7 KW.out.size), Nat.le_trans KW.out.size (Nat.le_trans X4.out.size HB5.out), BX.out⟩
            go_roundw
            case rel => exact ⟨j + 1, bb, by omega, by omega, by go_num, rfl, by first | exact HE | exact HE.drewN⟩
            case measure => simp [intOf]; omega
    · obtain ⟨v, hA, hX, hok, hvn, hbw, hba, hbx⟩ := HI.out
      have HBW := Lib.hid hbw
      have hcases : ¬ j < nn ∨ (j < nn ∧ ¬ j < 60) := by omega
      clear hA hX hok hvn hbw hba hbx HI hlt
      rcases hcases with h | ⟨h, h'⟩
      · have h3 : ¬ (j : Int) < (nn : Int) := by omega
        clear h
        go_wp2_with (go_at_call 31; (with_reducible refine (HTO.out _).mono ?_); rintro e wt ⟨rfl, hx⟩; have KT : Hid (Below w.heap.size w wt) := Below.trans HBW.out (Below.mono hx HBW.out.size); clear hx)
        try go_ret
        exact hD.out _ _ ⟨rfl, KT.out⟩
      · have h3 : (j : Int) < (nn : Int) := by omega
        have h4 : ¬ (j : Int) < 60 := by omega
        clear h h'
        go_wp2_with (go_at_call 31; (with_reducible refine (HTO.out _).mono ?_); rintro e wt ⟨rfl, hx⟩; have KT : Hid (Below w.heap.size w wt) := Below.trans HBW.out (Below.mono hx HBW.out.size); clear hx)
        try go_ret
        exact hD.out _ _ ⟨rfl, KT.out⟩

theorem walk_acceptPlays (n : Int) (A0 : Option Addr) (xs : List Op13) (cap0 : Nat) (w : World) (hc0 : xs.length ≤ cap0) (hn : xs.length ≤ 9223372036854775807) (hS : So13 w A0 xs) :
    Calls Try.prog 9 #[.int .i64 n, .slice A0 xs.length cap0] w fun e w' => e = .returned (.bool true) ∧ Below w.heap.size w w' := by
  by_cases h : n < 1 ∨ 5 < n
  · exact plays13_no n A0 xs.length cap0 w h
  · obtain ⟨m, rfl⟩ := Int.eq_ofNat_of_zero_le (show 0 ≤ n by omega)
    exact plays13_yes m A0 xs cap0 w (by omega) (by omega) hn hS

set_option maxRecDepth 100000 in
theorem law_acceptPlays {H : Type} {enc : TypeId × Value → H} (W : World) (base : Nat) (args : Array Value) (ds : List (DataW H)) (p : List MemPlace)
    (hval : ∀ (j : Nat) t v, Try.f9.params[j]? = some t → args[j]? = some v → Value.okWide Try.prog W .any base t v)
    (hA : DataW.TrodAll enc Try.prog W 0 (fun _ => true) true Try.f9.params.toList args.toList ds p) :
    Calls Try.prog 9 args W fun e W' => e = .returned (.bool true) ∧ Below W.heap.size W W' := by
  rw [Try.params9] at hA hval
  obtain ⟨v0, vs0, d0, ds0, p0, q0, hargs, rfl, rfl, h0, r0⟩ := trodAll_cons hA
  obtain ⟨v1, vs1, d1, ds1, p1, q1, rfl, rfl, rfl, h1, r1⟩ := trodAll_cons r0
  obtain ⟨rfl, rfl, rfl⟩ := trodAll_nil r1
  obtain rfl : args = #[v0, v1] := by cases args; simp_all
  obtain ⟨a0, rfl, rfl, rfl, w0⟩ := open_int Try.underlying3 (hval 0 3 v0 rfl rfl) h0
  obtain ⟨A1, n1, c1, rfl⟩ := okWide_slice Try.underlying57 (hval 1 57 v1 rfl rfl)
  obtain ⟨fuel1, hf1⟩ := h1
  obtain ⟨B1, l1, e1, hcs1, x1, y1, z1⟩ := open_ops13 hf1
  simp only [Value.cells, List.cons.injEq, Value.slice.injEq, and_true] at hcs1
  obtain ⟨rfl, rfl, rfl⟩ := hcs1
  exact walk_acceptPlays a0 A1 l1 c1 W x1 (Nat.le_trans x1 y1) z1

end Go.Proofs.Ytkdcbidbciognaa
