/-
  The walk of the law TallyPlays.
-/
import Derived.Test.YtkdcbidbciognaaTallyStep
import Derived.Test.YtkdcbidbciognaaTallyNew
import Derived.Test.YtkdcbidbciognaaOpenOps14
import Derived.Deep.Cut
namespace Go.Proofs.Ytkdcbidbciognaa
set_option linter.unusedVariables false
set_option linter.unusedSimpArgs false
open Go.RowKit Go.ChangeShapes Go.WideShapes Go.Joins Go.Deep

set_option maxRecDepth 100000 in
theorem open_bal14 {H : Type} {enc : TypeId × Value → H} {W : World} {base : Nat} {r : Reach} {v : Value} {d : DataW H} {p : List MemPlace}
    (hval : Value.okWide Try.prog W r base 23 v) (h : DataW.Trod enc Try.prog W 0 (fun _ => true) true 23 v d p) :
    ∃ (x y : Int), v = .agg #[.int .i64 x, .int .i64 y] ∧ (Lit.int .i64 x).wf = true ∧ (Lit.int .i64 y).wf = true := by
  obtain ⟨c0, c1, y0, y1, m, rfl, _, _, hy0, hy1⟩ := open_agg2 Try.underlying23 (by kernel_rfl) (by kernel_rfl) hval h
  obtain ⟨x, e0, _, w0⟩ := DataW.trod_int Try.underlying3 hy0
  obtain ⟨y, e1, _, w1⟩ := DataW.trod_int Try.underlying3 hy1
  simp only [List.cons.injEq, and_true] at e0 e1
  subst e0; subst e1
  exact ⟨x, y, rfl, w0, w1⟩
theorem BR.eqs {v : TV} {L : List Vt} (h : BR v L) : chE v L = (if v.has then v.xep else v.ep) ∧ chL v L = (if v.has then v.xl else v.cl) := by
  unfold BR at h
  unfold chE chL
  cases hb : bestV L with
  | none => rw [hb] at h; simp only at h; simp [h]
  | some t => rw [hb] at h; simp only at h; simp [h.1, h.2.2.2.1, h.2.2.2.2]
structure Bd (n ep : Int) (cl : List Int) (v : TV) (L : List Vt) (j : Nat) : Prop where
  n : v.n = n
  ep : v.ep = ep
  pl : v.pl.length ≤ j
  sl : v.sl.length ≤ j
  ll : L.length ≤ j
  cll : v.cl.length ≤ 8
  xll : v.xl.length ≤ 8
theorem Bd.prom {n ep : Int} {cl : List Int} {v : TV} {L : List Vt} {j : Nat} (h : Bd n ep cl v L j) (node : Int) (t : Vt) (ht : t.l.length ≤ 8) : Bd n ep cl (vNext v node t) (if vOk v node t = true then L ++ [t] else L) (j + 1) := by
  obtain ⟨h1, h2, h3, h4, h5, h6, h7⟩ := h
  unfold vNext
  split
  · unfold vPut
    split
    · exact ⟨h1, h2, by simp; omega, by simp only; omega, by simp; omega, h6, ht⟩
    · exact ⟨h1, h2, by simp; omega, by simp only; omega, by simp; omega, h6, h7⟩
  · exact ⟨h1, h2, by omega, by omega, by omega, h6, h7⟩
theorem Bd.yes {n ep : Int} {cl : List Int} {v : TV} {L : List Vt} {j : Nat} (h : Bd n ep cl v L j) (node : Int) : Bd n ep cl (yNext v node) L (j + 1) := by
  obtain ⟨h1, h2, h3, h4, h5, h6, h7⟩ := h
  unfold yNext
  split
  · exact ⟨h1, h2, by simp only; omega, by simp; omega, by omega, h6, h7⟩
  · exact ⟨h1, h2, by omega, by omega, by omega, h6, h7⟩
theorem BR.prom {v : TV} {L : List Vt} (h : BR v L) (node : Int) (t : Vt) : BR (vNext v node t) (if vOk v node t = true then L ++ [t] else L) := by
  unfold vNext
  split
  · exact h.put node t
  · exact h
theorem BR.yes {v : TV} {L : List Vt} (h : BR v L) (node : Int) : BR (yNext v node) L := by
  unfold yNext
  split <;> exact h
/-- blocks of other types may be told to be kept, too -/
theorem TAt.op {w : World} {base P : Nat} {K : Nat → Prop} {v : TV} (H : TAt w base P K v) : TAt w base P (fun k => K k ∨ ∃ cs, Blk w k 42 cs) v := by
  obtain ⟨hP, c, p, s, x, h1, h2, h3, h4, h5, h6, h7, h8⟩ := H
  refine ⟨hP, c, p, s, x, h1, h2, h3, h4, h5, h6, h7, fun k hk => ?_⟩
  rcases hk with hk | ⟨cs, hb⟩
  · exact h8 k hk
  · exact ⟨hb.lt, Blk.apart hb h1 (by decide), fun e => own_apB h3 hb (by decide) e, fun e => own_apB h4 hb (by decide) e, fun e => own_apB h2 hb (by decide) e, fun e => own_apB h5 hb (by decide) e⟩
theorem XAt.opn {w : World} {base P : Nat} {s : Nat → Prop} {v : TV} {L : List Vt} (H : XAt w base P s v L) {g : Nat} {cs : Array Value} (hb : Blk w g 42 cs) : ¬ s g := by
  obtain ⟨hP, cA, ccap, V, F, S, kP, hV, hF, hS, hne, ⟨hcs, hcb⟩, hLs, hsel⟩ := H
  intro h
  rcases (hsel g).1 h with rfl | h | h | h
  · exact Blk.apart hb kP (by decide) rfl
  · exact own_apB hV hb (by decide) h
  · exact own_apB hF hb (by decide) h
  · exact own_apB hS hb (by decide) h
theorem XAt.sge {w : World} {base P : Nat} {s : Nat → Prop} {v : TV} {L : List Vt} (H : XAt w base P s v L) : ∀ k, s k → base ≤ k := by
  obtain ⟨hP, cA, ccap, V, F, S, kP, hV, hF, hS, hne, ⟨hcs, hcb⟩, hLs, hsel⟩ := H
  intro k hk
  rcases (hsel k).1 hk with rfl | h | h | h
  · exact hP
  · exact (hV.lt k h).1
  · exact (hF.lt k h).1
  · exact (hS.lt k h).1

set_option maxRecDepth 8000 in
set_option maxHeartbeats 32000000 in
theorem walk_tallyPlays (n br bn ep : Int) (cA : Option Addr) (ccap : Nat) (cl : List Int) (A : Option Addr) (l : List Op14) (cap : Nat) (w : World) (hcc63 : cl.length ≤ 9223372036854775807) (hccap : cl.length ≤ ccap) (hsc : Sl i64 w cA cl) (hn0 : -9223372036854775808 ≤ n ∧ n ≤ 9223372036854775807) (hcap : l.length ≤ cap) (hc63 : l.length ≤ 9223372036854775807) (hS : So14 w A l) :
    Calls Try.prog 3 #[.int .i64 n, .agg #[.int .i64 br, .int .i64 bn], .agg #[.int .i64 ep, .slice cA cl.length ccap], .slice A l.length cap] w fun e w' => e = .returned (.bool true) ∧ Below w.heap.size w w' := by
  refine hide_post fun D hD => ?_
  obtain ⟨w0, hw0⟩ : ∃ w0, w0 = (w.alloc (.cells #[.int .i64 br, .int .i64 bn] 23)).alloc (.cells #[.int .i64 ep, .slice cA cl.length ccap] 26) := ⟨_, rfl⟩
  have hb0 : Ext w w0 := by rw [hw0]; exact ((Below.refl _ _).alloc (Nat.le_refl _) _).alloc (by simp) _
  have KB : Hid (Blk w0 w.heap.size 23 #[.int .i64 br, .int .i64 bn]) := by show Blk _ _ _ _; rw [hw0]; exact (Blk.new _ _ _).alloc _
  have KC : Hid (Blk w0 (w.heap.size + 1) 26 #[.int .i64 ep, .slice cA cl.length ccap]) := by show Blk _ _ _ _; rw [hw0]; exact Blk.new' _ _ _ _ (by simp)
  have HW0 := Lib.hid hw0
  have HB0 := Lib.hid hb0
  have HS := Lib.hid hS
  have HSC := Lib.hid hsc
  have CT : Hid (∀ V, Calls Try.prog 11 #[] V fun e w' => e = .returned (.bool true) ∧ Ext V w') := fun V => told_tally V
  have CM1 : Hid (∀ V, Calls Try.prog 15 #[.int .i64 n] V fun e w' => e = .returned (.int .i64 (mostI n)) ∧ Ext V w') := fun V => (most_big n V hn0.1 hn0.2).mono fun e w' h => ⟨h.1, h.2 ▸ Ext.refl _⟩
  have CM2 : Hid (∀ V, Calls Try.prog 16 #[.int .i64 n] V fun e w' => e = .returned (.int .i64 (mostI n)) ∧ Ext V w') := fun V => (refMost_any n V hn0.1 hn0.2).mono fun e w' h => ⟨h.1, h.2 ▸ Ext.refl _⟩
  obtain ⟨N, hN⟩ : ∃ z, z = l.length := ⟨_, rfl⟩
  rw [← hN] at hcap hc63 ⊢
  have HN := Lib.hid hN
  clear hw0 hb0 hS hsc hN
  by_cases h8 : 8 < cl.length
  · have i8 : (8 : Int) < (cl.length : Int) := by omega
    have c1 := KC.out.cell 1
    have XA : Hid (Ext w ((w.alloc (.cells #[.int .i64 br, .int .i64 bn] 23)).alloc (.cells #[.int .i64 ep, .slice cA cl.length ccap] 26))) := ((Below.refl _ _).alloc (Nat.le_refl _) _).alloc (by simp) _
    clear c1
    go_enter Try.func3, Try.ntmps3
    go_wp2_with (go_at_call 11; (with_reducible refine (CT.out _).mono ?_); rintro e w1 ⟨rfl, hx⟩; have X1 := Lib.hid hx; clear hx)
    try go_ret
    exact hD.out _ _ ⟨rfl, Ext.trans XA.out X1.out⟩
  have i8 : ¬ (8 : Int) < (cl.length : Int) := by omega
  have hmq2 : (mostI n == mostI n) = true := by simp
  by_cases h1 : n < 1
  · have hbad : ¬ (1 ≤ n ∧ n ≤ 5 ∧ mayBal br bn = true ∧ mayChainB ep cl = true) := fun h => by omega
    generalize hmi : mostI n = mi at *
    clear hmi
    have CN : Hid (Calls Try.prog 12 #[.int .i64 n, .agg #[.int .i64 br, .int .i64 bn], .agg #[.int .i64 ep, .slice cA cl.length ccap]] w0 fun e w' => e = .returned (.tuple #[.pointer none, .int .i64 1]) ∧ Ext w0 w') := new_no14 n br bn ep cA ccap cl w0 hbad (by omega) hccap (HSC.out.stay HB0.out)
    clear hbad
    go_enter Try.func3, Try.ntmps3
    go_wp2_with (first
      | (go_at_call 12; rw [← HW0.out]; (with_reducible refine CN.out.mono ?_); rintro e w1 ⟨rfl, hx⟩; have X1 := Lib.hid hx; have a0 := (KB.out.stay hx).cell 0; have a1 := (KB.out.stay hx).cell 1; have c0 := (KC.out.stay hx).cell 0; have c1 := (KC.out.stay hx).cell 1; clear hx)
      | (go_at_call 11; (with_reducible refine (CT.out _).mono ?_); rintro e w5 ⟨rfl, hx⟩; have X5 := Lib.hid hx; clear hx)
      | (go_at_call 15; (with_reducible refine (CM1.out _).mono ?_); rintro e w6 ⟨rfl, hx⟩; have X6 := Lib.hid (Ext.trans X5.out hx); clear hx)
      | (go_at_call 16; (with_reducible refine (CM2.out _).mono ?_); rintro e w7 ⟨rfl, hx⟩; have X7 := Lib.hid (Ext.trans X6.out hx); clear hx))
    try go_ret
    exact hD.out _ _ ⟨by first | rfl | simp, Ext.trans HB0.out (Ext.trans X1.out X7.out)⟩
  by_cases h5 : 5 < n
  · have hbad : ¬ (1 ≤ n ∧ n ≤ 5 ∧ mayBal br bn = true ∧ mayChainB ep cl = true) := fun h => by omega
    generalize hmi : mostI n = mi at *
    clear hmi
    have CN : Hid (Calls Try.prog 12 #[.int .i64 n, .agg #[.int .i64 br, .int .i64 bn], .agg #[.int .i64 ep, .slice cA cl.length ccap]] w0 fun e w' => e = .returned (.tuple #[.pointer none, .int .i64 1]) ∧ Ext w0 w') := new_no14 n br bn ep cA ccap cl w0 hbad (by omega) hccap (HSC.out.stay HB0.out)
    clear hbad
    go_enter Try.func3, Try.ntmps3
    go_wp2_with (first
      | (go_at_call 12; rw [← HW0.out]; (with_reducible refine CN.out.mono ?_); rintro e w1 ⟨rfl, hx⟩; have X1 := Lib.hid hx; have a0 := (KB.out.stay hx).cell 0; have a1 := (KB.out.stay hx).cell 1; have c0 := (KC.out.stay hx).cell 0; have c1 := (KC.out.stay hx).cell 1; clear hx)
      | (go_at_call 11; (with_reducible refine (CT.out _).mono ?_); rintro e w5 ⟨rfl, hx⟩; have X5 := Lib.hid hx; clear hx)
      | (go_at_call 15; (with_reducible refine (CM1.out _).mono ?_); rintro e w6 ⟨rfl, hx⟩; have X6 := Lib.hid (Ext.trans X5.out hx); clear hx)
      | (go_at_call 16; (with_reducible refine (CM2.out _).mono ?_); rintro e w7 ⟨rfl, hx⟩; have X7 := Lib.hid (Ext.trans X6.out hx); clear hx))
    try go_ret
    exact hD.out _ _ ⟨by first | rfl | simp, Ext.trans HB0.out (Ext.trans X1.out X7.out)⟩
  cases hb : mayBal br bn with
  | false =>
    have hbad : ¬ (1 ≤ n ∧ n ≤ 5 ∧ mayBal br bn = true ∧ mayChainB ep cl = true) := fun h => by rw [hb] at h; cases h.2.2.1
    generalize hmi : mostI n = mi at *
    clear hmi
    have CN : Hid (Calls Try.prog 12 #[.int .i64 n, .agg #[.int .i64 br, .int .i64 bn], .agg #[.int .i64 ep, .slice cA cl.length ccap]] w0 fun e w' => e = .returned (.tuple #[.pointer none, .int .i64 1]) ∧ Ext w0 w') := new_no14 n br bn ep cA ccap cl w0 hbad (by omega) hccap (HSC.out.stay HB0.out)
    have CB : Hid (∀ V, Calls Try.prog 13 #[.agg #[.int .i64 br, .int .i64 bn]] V fun e w' => e = .returned (.bool false) ∧ Ext V w') := fun V => by rw [← hb]; exact refMayBal_any br bn V
    clear hb
    clear hbad
    go_enter Try.func3, Try.ntmps3
    go_wp2_with (first
      | (go_at_call 12; rw [← HW0.out]; (with_reducible refine CN.out.mono ?_); rintro e w1 ⟨rfl, hx⟩; have X1 := Lib.hid hx; have a0 := (KB.out.stay hx).cell 0; have a1 := (KB.out.stay hx).cell 1; have c0 := (KC.out.stay hx).cell 0; have c1 := (KC.out.stay hx).cell 1; clear hx)
      | (go_at_call 13; (with_reducible refine (CB.out _).mono ?_); rintro e w2 ⟨rfl, hx⟩; have X2 := Lib.hid (Ext.trans X1.out hx); have c0 := (KC.out.stay (Ext.trans X1.out hx)).cell 0; have c1 := (KC.out.stay (Ext.trans X1.out hx)).cell 1; clear hx)
      | (go_at_call 11; (with_reducible refine (CT.out _).mono ?_); rintro e w5 ⟨rfl, hx⟩; have X5 := Lib.hid hx; clear hx)
      | (go_at_call 15; (with_reducible refine (CM1.out _).mono ?_); rintro e w6 ⟨rfl, hx⟩; have X6 := Lib.hid (Ext.trans X5.out hx); clear hx)
      | (go_at_call 16; (with_reducible refine (CM2.out _).mono ?_); rintro e w7 ⟨rfl, hx⟩; have X7 := Lib.hid (Ext.trans X6.out hx); clear hx))
    try go_ret
    exact hD.out _ _ ⟨by first | rfl | simp, Ext.trans HB0.out (Ext.trans X2.out X7.out)⟩
  | true =>
    cases hc : mayChainB ep cl with
    | false =>
      have hbad : ¬ (1 ≤ n ∧ n ≤ 5 ∧ mayBal br bn = true ∧ mayChainB ep cl = true) := fun h => by rw [hc] at h; cases h.2.2.2
      generalize hmi : mostI n = mi at *
      clear hmi
      have CN : Hid (Calls Try.prog 12 #[.int .i64 n, .agg #[.int .i64 br, .int .i64 bn], .agg #[.int .i64 ep, .slice cA cl.length ccap]] w0 fun e w' => e = .returned (.tuple #[.pointer none, .int .i64 1]) ∧ Ext w0 w') := new_no14 n br bn ep cA ccap cl w0 hbad (by omega) hccap (HSC.out.stay HB0.out)
      have CB : Hid (∀ V, Calls Try.prog 13 #[.agg #[.int .i64 br, .int .i64 bn]] V fun e w' => e = .returned (.bool true) ∧ Ext V w') := fun V => by rw [← hb]; exact refMayBal_any br bn V
      have CC : Hid (∀ V, Ext w0 V → Calls Try.prog 14 #[.agg #[.int .i64 ep, .slice cA cl.length ccap]] V fun e w' => e = .returned (.bool false) ∧ Ext V w') := fun V h => by rw [← hc]; exact refMayChain_any ep cA ccap cl V (by omega) (HSC.out.stay (Ext.trans HB0.out h))
      clear hb hc
      clear hbad
      go_enter Try.func3, Try.ntmps3
      go_wp2_with (first
        | (go_at_call 12; rw [← HW0.out]; (with_reducible refine CN.out.mono ?_); rintro e w1 ⟨rfl, hx⟩; have X1 := Lib.hid hx; have a0 := (KB.out.stay hx).cell 0; have a1 := (KB.out.stay hx).cell 1; have c0 := (KC.out.stay hx).cell 0; have c1 := (KC.out.stay hx).cell 1; clear hx)
        | (go_at_call 13; (with_reducible refine (CB.out _).mono ?_); rintro e w2 ⟨rfl, hx⟩; have X2 := Lib.hid (Ext.trans X1.out hx); have c0 := (KC.out.stay (Ext.trans X1.out hx)).cell 0; have c1 := (KC.out.stay (Ext.trans X1.out hx)).cell 1; clear hx)
        | (go_at_call 14; (with_reducible refine (CC.out _ X2.out).mono ?_); rintro e w3 ⟨rfl, hx⟩; have X3 := Lib.hid (Ext.trans X2.out hx); clear hx)
        | (go_at_call 11; (with_reducible refine (CT.out _).mono ?_); rintro e w5 ⟨rfl, hx⟩; have X5 := Lib.hid hx; clear hx)
        | (go_at_call 15; (with_reducible refine (CM1.out _).mono ?_); rintro e w6 ⟨rfl, hx⟩; have X6 := Lib.hid (Ext.trans X5.out hx); clear hx)
        | (go_at_call 16; (with_reducible refine (CM2.out _).mono ?_); rintro e w7 ⟨rfl, hx⟩; have X7 := Lib.hid (Ext.trans X6.out hx); clear hx))
      try go_ret
      exact hD.out _ _ ⟨by first | rfl | simp, Ext.trans HB0.out (Ext.trans X3.out X7.out)⟩
    | true =>
      clear CM1 CM2 hmq2
      have CN : Hid (Calls Try.prog 12 #[.int .i64 n, .agg #[.int .i64 br, .int .i64 bn], .agg #[.int .i64 ep, .slice cA cl.length ccap]] w0 fun e w' => ∃ P, e = .returned (.tuple #[.pointer (some ⟨P, 0, none⟩), .int .i64 0]) ∧ Ext w0 w' ∧ TAt w' w0.heap.size P (fun k => k < w0.heap.size) ⟨n, br, bn, ep, cl, [], [], false, 0, 0, 0, []⟩) := new_ok n br bn ep cA ccap cl w0 (by omega) hb hc (by omega) hccap (HSC.out.stay HB0.out)
      have CB : Hid (∀ V, Calls Try.prog 13 #[.agg #[.int .i64 br, .int .i64 bn]] V fun e w' => e = .returned (.bool true) ∧ Ext V w') := fun V => by rw [← hb]; exact refMayBal_any br bn V
      have CC : Hid (∀ V, Ext w0 V → Calls Try.prog 14 #[.agg #[.int .i64 ep, .slice cA cl.length ccap]] V fun e w' => e = .returned (.bool true) ∧ Ext V w') := fun V h => by rw [← hc]; exact refMayChain_any ep cA ccap cl V (by omega) (HSC.out.stay (Ext.trans HB0.out h))
      have hcne : cl ≠ [] := fun e => by rw [e] at hc; simp [mayChainB] at hc
      have hcb : ∀ a, cA = some a → a.block < w.heap.size := fun a ha => by
        obtain ⟨y, hy⟩ : ∃ y, cl[0]? = some y := ⟨_, List.getElem?_eq_getElem (by rcases cl with _ | ⟨a, r⟩; exact absurd rfl hcne; simp)⟩
        obtain ⟨b9, o9, e9, hc9⟩ := HSC.out 0 y hy
        rw [ha] at e9
        injection e9 with e9
        subst e9
        exact World.block_lt_of_cell? w _ hc9
      have HCB := Lib.hid hcb
      clear hb hc hcne hcb
      have hz0 : w.heap.size ≤ w0.heap.size := HB0.out.size
      obtain ⟨b, hbw⟩ : ∃ z, z = w0.heap.size := ⟨_, rfl⟩
      rw [← hbw] at CN
      have HBW := Lib.hid hbw
      have HBLE : Hid (w.heap.size ≤ b) := by (show _ ≤ _); rw [hbw]; exact hz0
      clear hbw hz0
      go_enter Try.func3, Try.ntmps3
      go_upto_region 4 with (go_at_call 12; rw [← HW0.out]; (with_reducible refine CN.out.mono ?_); rintro e w1 ⟨P, rfl, hx, ht⟩; have X1 := Lib.hid hx; have HT1 := Lib.hid ht; have a0 := (KB.out.stay hx).cell 0; have a1 := (KB.out.stay hx).cell 1; have c0 := (KC.out.stay hx).cell 0; have c1 := (KC.out.stay hx).cell 1; clear hx ht)
      have in1 : ¬ n < 1 := by omega
      have in5 : ¬ (5 : Int) < n := by omega
      go_upto_region 6 with (first
        | (go_at_call 13; (with_reducible refine (CB.out _).mono ?_); rintro e w2 ⟨rfl, hx⟩; have X2 := Lib.hid (Ext.trans X1.out hx); have Y2 := Lib.hid hx; have c0 := (KC.out.stay (Ext.trans X1.out hx)).cell 0; have c1 := (KC.out.stay (Ext.trans X1.out hx)).cell 1; clear hx)
        | (go_at_call 14; (with_reducible refine (CC.out _ X2.out).mono ?_); rintro e w3 ⟨rfl, hx⟩; have X3 := Lib.hid (Ext.trans X2.out hx); have Y3 := Lib.hid (Ext.trans Y2.out hx); clear hx))
      have HT3 := Lib.hid (HT1.out.stay Y3.out)
      have a0 := (KB.out.stay X3.out).cell 0
      have a1 := (KB.out.stay X3.out).cell 1
      have c0 := (KC.out.stay X3.out).cell 0
      have c1 := (KC.out.stay X3.out).cell 1
      obtain ⟨PX, hPX⟩ : ∃ z, z = w3.heap.size := ⟨_, rfl⟩
      obtain ⟨w4, hw4⟩ : ∃ z, z = w3.alloc (.cells #[.int .i64 n, .int .i64 br, .int .i64 bn, .int .i64 ep, .slice cA cl.length ccap, .slice none 0 0, .slice none 0 0, .slice none 0 0] 38) := ⟨_, rfl⟩
      have X4 : Hid (Ext w3 w4) := by show Ext _ _; rw [hw4]; exact Ext.alloc _ _
      have HTT : Hid (TT w w4 b P PX ⟨n, br, bn, ep, cl, [], [], false, 0, 0, 0, []⟩ ⟨n, br, bn, ep, cl, [], [], false, 0, 0, 0, []⟩ []) := by
        have hm := HT3.out.more X4.out
        refine ⟨⟨_, fun k => k = PX, hm, ⟨?_, cA, ccap, .slice none 0 0, .slice none 0 0, .slice none 0 0, ?_, World.ownsRow_nil _ _ _ _, World.ownsRow_nil _ _ _ _, World.ownsRow_nil _ _ _ _, (fun k hk => by cases hk), ⟨(HSC.out.stay (Ext.trans HB0.out (Ext.trans X3.out X4.out))), fun a ha => Nat.lt_of_lt_of_le (HCB.out a ha) HBLE.out⟩, (fun t ht => by cases ht), fun k => ⟨fun h => .inl h, fun h => by rcases h with h | h | h | h; exact h; cases h; cases h; cases h⟩⟩, ?_, ?_⟩, HBLE.out, Ext.trans HB0.out (Ext.trans X3.out X4.out)⟩
        · rw [hPX, HBW.out]; exact X3.out.size
        · show Blk _ _ _ _; rw [hw4, hPX]; exact Blk.new _ _ _
        · rintro k rfl
          refine .inr ⟨by rw [hPX]; exact Nat.le_refl _, ?_⟩
          rw [hw4, hPX]; simp
        · intro k hk
          exact .inl hk
      have HPXX := Lib.hid hPX
      have HW4 := Lib.hid hw4
      have HBR0 : Hid (BR ⟨n, br, bn, ep, cl, [], [], false, 0, 0, 0, []⟩ []) := rfl
      have HBD0 : Hid (Bd n ep cl ⟨n, br, bn, ep, cl, [], [], false, 0, 0, 0, []⟩ [] 0) := ⟨rfl, rfl, Nat.le_refl _, Nat.le_refl _, Nat.le_refl _, by simp only; omega, by simp⟩
      clear hPX hw4
      go_upto_region 10 with fail
      rw [← HW4.out, ← HPXX.out]
      clear a0 a1 c0 c1
      go_loopw [12] (fun i wr => ∃ (j : Nat) (v : TV) (L : List Vt), j ≤ N ∧ j ≤ 40 ∧ i = .int .i64 j ∧ Hid (TT w wr b P PX v v L) ∧ Hid (BR v L) ∧ Hid (Bd n ep cl v L j)) (fun i _ => N - (intOf i).toNat)
      case atStart => exact ⟨0, _, _, by omega, by omega, rfl, HTT.out, HBR0.out, HBD0.out⟩
      case round =>
        obtain ⟨j, v, L, hj, hj40, rfl, HT, HBR, HBD⟩ := hrel
        by_cases hlt : j < N ∧ j < 40
        · obtain ⟨hlt, hl40⟩ := hlt
          obtain ⟨x, hx⟩ : ∃ x, l[j]? = some x := ⟨_, List.getElem?_eq_getElem (by rw [← HN.out]; exact hlt)⟩
          obtain ⟨ob, oo, rfl, hc, hsl, hok⟩ := HS.out j x hx
          have hxcap : x.l.length ≤ x.cap := hok.2.2.2.2.2.2.1
          obtain ⟨kd, node, pr, pn, ar, an, has, cep, xA, xcap, xl⟩ := x
          simp only at hsl hxcap
          obtain ⟨xn, hxn⟩ : ∃ z, z = xl.length := ⟨_, rfl⟩
          have HXN := Lib.hid hxn
          have c0 : w.cell? ⟨ob, oo + j * 9 + 0, none⟩ = some (.int .i64 kd) := hc 0 (by decide)
          have c1 : w.cell? ⟨ob, oo + j * 9 + 1, none⟩ = some (.int .i64 node) := hc 1 (by decide)
          have c2 : w.cell? ⟨ob, oo + j * 9 + 2, none⟩ = some (.int .i64 pr) := hc 2 (by decide)
          have c3 : w.cell? ⟨ob, oo + j * 9 + 3, none⟩ = some (.int .i64 pn) := hc 3 (by decide)
          have c4 : w.cell? ⟨ob, oo + j * 9 + 4, none⟩ = some (.int .i64 ar) := hc 4 (by decide)
          have c5 : w.cell? ⟨ob, oo + j * 9 + 5, none⟩ = some (.int .i64 an) := hc 5 (by decide)
          have c6 : w.cell? ⟨ob, oo + j * 9 + 6, none⟩ = some (.bool has) := hc 6 (by decide)
          have c7 : w.cell? ⟨ob, oo + j * 9 + 7, none⟩ = some (.int .i64 cep) := hc 7 (by decide)
          have c8 : w.cell? ⟨ob, oo + j * 9 + 8, none⟩ = some (.slice xA xl.length xcap) := hc 8 (by decide)
          rw [← hxn] at c8
          have hj1 : (j : Int) < (N : Int) := by omega
          have hj0 : (0 : Int) ≤ (j : Int) := by omega
          have hj8 : (j : Int) < 40 := by omega
          have HXL : Hid (∀ a, xl ≠ [] → xA = some a → a.block < b) := fun a hne ha => by
            obtain ⟨y, hy⟩ : ∃ y, xl[0]? = some y := ⟨_, List.getElem?_eq_getElem (by rcases xl with _ | ⟨a, r⟩; exact absurd rfl hne; simp)⟩
            obtain ⟨b9, o9, e9, hc9⟩ := hsl 0 y hy
            rw [ha] at e9
            injection e9 with e9
            subst e9
            exact Nat.lt_of_lt_of_le (World.block_lt_of_cell? w _ hc9) HBLE.out
          have HSL := Lib.hid hsl
          have HXC := Lib.hid hxcap
          obtain ⟨g, hg⟩ : ∃ z, z = wr.heap.size := ⟨_, rfl⟩
          obtain ⟨wf, hwf⟩ : ∃ z, z = wr.alloc (.cells #[.int .i64 kd, .int .i64 node, .int .i64 pr, .int .i64 pn, .int .i64 ar, .int .i64 an, .bool has, .int .i64 cep, .slice xA xn xcap] 42) := ⟨_, rfl⟩
          have KG : Hid (Blk wf g 42 #[.int .i64 kd, .int .i64 node, .int .i64 pr, .int .i64 pn, .int .i64 ar, .int .i64 an, .bool has, .int .i64 cep, .slice xA xn xcap]) := by show Blk _ _ _ _; rw [hwf, hg]; exact Blk.new _ _ _
          have HTF : Hid (TT w wf b P PX v v L) := by show TT _ _ _ _ _ _ _ _; rw [hwf]; exact HT.out.stay (Ext.alloc _ _)
          have HWF := Lib.hid hwf
          have HGG := Lib.hid hg
          replace c0 := cell_stay HT.out.ext c0
          replace c1 := cell_stay HT.out.ext c1
          replace c2 := cell_stay HT.out.ext c2
          replace c3 := cell_stay HT.out.ext c3
          replace c4 := cell_stay HT.out.ext c4
          replace c5 := cell_stay HT.out.ext c5
          replace c6 := cell_stay HT.out.ext c6
          replace c7 := cell_stay HT.out.ext c7
          replace c8 := cell_stay HT.out.ext c8
          simp only [Nat.add_zero] at c0
          clear hc hx hok hxn hg hwf hsl hxcap
          go_upto_region 13 with fail
          rw [← HWF.out, ← HGG.out]
          have d0 := KG.out.cell 0
          have d8 := KG.out.cell 8
          simp at d0 d8
          clear c0 c1 c2 c3 c4 c5 c6 c7 c8
          by_cases hx8 : 8 < xn
          · have ix8 : (8 : Int) < (xn : Int) := by omega
            go_wp2_with (go_at_call 11; (with_reducible refine (CT.out _).mono ?_); rintro e w5 ⟨rfl, hx⟩; have X5 := Lib.hid hx; clear hx)
            try go_ret
            exact hD.out _ _ ⟨rfl, Ext.trans HTF.out.ext X5.out⟩
          have ix8 : ¬ (8 : Int) < (xn : Int) := by omega
          have HX8 : Hid (xl.length ≤ 8) := by (show _ ≤ _); rw [← HXN.out]; omega
          obtain ⟨K, s, hT, hX, hSK, hOLD⟩ := HTF.out.at_
          obtain ⟨K2, hK2⟩ : ∃ z, z = (fun k => K k ∨ ∃ cs, Blk wf k 42 cs) := ⟨_, rfl⟩
          have hT2 := hT.op
          rw [← hK2] at hT2
          have HK2g : Hid (K2 g) := by (show K2 g); rw [hK2]; exact .inr ⟨_, KG.out⟩
          have HSK2 : Hid (∀ k, s k → K2 k) := fun k hk => by rw [hK2]; exact .inl (hSK k hk)
          have HOLD2 : Hid (∀ k, k < b → K2 k) := fun k hk => by rw [hK2]; exact .inl (hOLD k hk)
          have HSB : Hid (∀ k, s k → b ≤ k) := hX.sge
          have HXD : Hid (XAt wf.drew b PX s v L) := hX.stay (Ext.drewR (Ext.refl _))
          have HTD : Hid (TAt wf.drew b P K2 v) := hT2.stay (Ext.drewR (Ext.refl _))
          have HXTD : Hid (Ext w wf.drew) := Ext.trans HTF.out.ext (Ext.drewR (Ext.refl _))
          have hsg : ¬ s g := hX.opn KG.out
          have HSG := Lib.hid hsg
          have E16 : Hid (Frm (fun k => ¬ K2 k ∨ s k) wf wf.drew) := Frm.drew (Frm.refl _ _)
          have HNG : Hid (¬ (¬ K2 g ∨ s g)) := by
            rintro (h | h)
            · exact h HK2g.out
            · exact HSG.out h
          have HSLD := Lib.hid (HSL.out.stay HXTD.out)
          clear hT hX hSK hOLD hK2 hT2 hsg
          have y0 : ∀ W, Frm (fun k => ¬ K2 k ∨ s k) wf W → W.cell? ⟨g, 0, none⟩ = some (.int .i64 kd) := fun W h => (KG.out.frm h HNG.out).cell 0
          have y1 : ∀ W, Frm (fun k => ¬ K2 k ∨ s k) wf W → W.cell? ⟨g, 1, none⟩ = some (.int .i64 node) := fun W h => (KG.out.frm h HNG.out).cell 1
          have y2 : ∀ W, Frm (fun k => ¬ K2 k ∨ s k) wf W → W.cell? ⟨g, 2, none⟩ = some (.int .i64 pr) := fun W h => (KG.out.frm h HNG.out).cell 2
          have y3 : ∀ W, Frm (fun k => ¬ K2 k ∨ s k) wf W → W.cell? ⟨g, 3, none⟩ = some (.int .i64 pn) := fun W h => (KG.out.frm h HNG.out).cell 3
          have y4 : ∀ W, Frm (fun k => ¬ K2 k ∨ s k) wf W → W.cell? ⟨g, 4, none⟩ = some (.int .i64 ar) := fun W h => (KG.out.frm h HNG.out).cell 4
          have y5 : ∀ W, Frm (fun k => ¬ K2 k ∨ s k) wf W → W.cell? ⟨g, 5, none⟩ = some (.int .i64 an) := fun W h => (KG.out.frm h HNG.out).cell 5
          have y6 : ∀ W, Frm (fun k => ¬ K2 k ∨ s k) wf W → W.cell? ⟨g, 6, none⟩ = some (.bool has) := fun W h => (KG.out.frm h HNG.out).cell 6
          have y7 : ∀ W, Frm (fun k => ¬ K2 k ∨ s k) wf W → W.cell? ⟨g, 7, none⟩ = some (.int .i64 cep) := fun W h => (KG.out.frm h HNG.out).cell 7
          have y8 : ∀ W, Frm (fun k => ¬ K2 k ∨ s k) wf W → W.cell? ⟨g, 8, none⟩ = some (.slice xA xn xcap) := fun W h => (KG.out.frm h HNG.out).cell 8
          by_cases hk0 : kd = 0
          · subst hk0
            have CA : Hid (Calls Try.prog 17 #[.pointer (some ⟨P, 0, none⟩), .int .i64 node, .agg #[.int .i64 pr, .int .i64 pn, .int .i64 ar, .int .i64 an, .bool has, .int .i64 cep, .slice xA xn xcap]] wf.drew fun e w' => e = .returned (.bool (vOk v node ⟨pr, pn, ar, an, has, cep, xA, xcap, xl⟩)) ∧ (TAt w' b P K2 (vNext v node ⟨pr, pn, ar, an, has, cep, xA, xcap, xl⟩) ∧ XAt w' b PX s v L ∧ Ext w w') ∧ Frm (fun k => ¬ K2 k) wf.drew w') := by
              have h7 := tprom_any b P K2 v node ⟨pr, pn, ar, an, has, cep, xA, xcap, xl⟩ wf.drew HTD.out (by have := HBD.out.pl; omega) (by have := HX8.out; simp only; omega) HXC.out HSLD.out (fun hne a ha => HOLD2.out _ (HXL.out a hne ha)); simp only at h7; rw [← HXN.out] at h7
              refine h7.mono ?_
              rintro e w' ⟨he, ht, hk, hb⟩
              have hf := Frm.of_keep hk hb
              exact ⟨he, ⟨ht, (HXD.out).frm hf (fun k hk => ⟨fun hs => hk (HSK2.out k hs), Nat.not_lt.1 (fun h => hk (HOLD2.out k h))⟩), Below.trans HXTD.out (hb.mono HBLE.out)⟩, hf⟩
            have CR : Hid (∀ w1, (TAt w1 b P K2 (vNext v node ⟨pr, pn, ar, an, has, cep, xA, xcap, xl⟩) ∧ XAt w1 b PX s v L ∧ Ext w w1) → Calls Try.prog 18 #[.pointer (some ⟨PX, 0, none⟩), .int .i64 node, .agg #[.int .i64 pr, .int .i64 pn, .int .i64 ar, .int .i64 an, .bool has, .int .i64 cep, .slice xA xn xcap]] w1 fun e w' => e = .returned (.bool (vOk v node ⟨pr, pn, ar, an, has, cep, xA, xcap, xl⟩)) ∧ TT w w' b P PX (vNext v node ⟨pr, pn, ar, an, has, cep, xA, xcap, xl⟩) (vNext v node ⟨pr, pn, ar, an, has, cep, xA, xcap, xl⟩) (if vOk v node ⟨pr, pn, ar, an, has, cep, xA, xcap, xl⟩ = true then L ++ [(⟨pr, pn, ar, an, has, cep, xA, xcap, xl⟩ : Vt)] else L) ∧ Frm s w1 w') := fun w1 ⟨ht, hx, hw⟩ => by
              have h7 := rprom_any b PX s v L node ⟨pr, pn, ar, an, has, cep, xA, xcap, xl⟩ w1 hx (by have := HBD.out.pl; omega) (by have := HBD.out.ll; omega) (by have := HX8.out; simp only; omega) (HSL.out.stay hw) (fun hne a ha => HXL.out a hne ha); simp only at h7; rw [← HXN.out] at h7
              refine h7.mono ?_
              rintro e w' ⟨he, s', hx', hf, hs'⟩
              refine ⟨he, ⟨⟨_, s', ht.frmK hf HSK2.out, hx', fun k hk => ?_, fun k hk => .inl (HOLD2.out k hk)⟩, HBLE.out, ?_⟩, hf⟩
              · rcases hs' k hk with h | h
                · exact .inl (HSK2.out k h)
                · exact .inr ⟨h, hx'.slt k hk⟩
              · exact Frm.step hw hf hw.size (fun k hk => Nat.le_trans HBLE.out (HSB.out k hk))
            have HBR2 : Hid (BR (vNext v node ⟨pr, pn, ar, an, has, cep, xA, xcap, xl⟩) (if vOk v node ⟨pr, pn, ar, an, has, cep, xA, xcap, xl⟩ = true then L ++ [(⟨pr, pn, ar, an, has, cep, xA, xcap, xl⟩ : Vt)] else L)) := HBR.out.prom _ _
            have HBN2 : Hid (Bd n ep cl (vNext v node ⟨pr, pn, ar, an, has, cep, xA, xcap, xl⟩) (if vOk v node ⟨pr, pn, ar, an, has, cep, xA, xcap, xl⟩ = true then L ++ [(⟨pr, pn, ar, an, has, cep, xA, xcap, xl⟩ : Vt)] else L) (j + 1)) := HBD.out.prom _ _ HX8.out
            generalize (if vOk v node ⟨pr, pn, ar, an, has, cep, xA, xcap, xl⟩ = true then L ++ [(⟨pr, pn, ar, an, has, cep, xA, xcap, xl⟩ : Vt)] else L) = L2 at *
            generalize vNext v node ⟨pr, pn, ar, an, has, cep, xA, xcap, xl⟩ = v2 at *
            generalize vOk v node ⟨pr, pn, ar, an, has, cep, xA, xcap, xl⟩ = okk at *
            go_wp2
            refine rz_begin (fun k => ¬ K2 k ∨ s k) [] (by kernel_rfl) ?_
            refine rz_take [5, 11, 12] (i := 0) (v := ?_) rfl (by kernel_rfl) (by kernel_rfl) (by kernel_rfl) (by kernel_rfl) (by kernel_rfl) (by kernel_rfl) (fun _ _ _ h => h) (by rfl) ?_ ?_
            rotate_left
            · intro W hW; have hW0 := Frm.tr E16.out hW; clear hW; go_simp <;> with_reducible rfl
            try simp only [Act.put, List.setIfInBounds_toArray, List.set_cons_zero, List.set_cons_succ]
            refine rz_take [2, 5, 11, 12] (i := 1) (v := ?_) rfl (by kernel_rfl) (by kernel_rfl) (by kernel_rfl) (by kernel_rfl) (by kernel_rfl) (by kernel_rfl) (fun _ _ _ h => h) (by rfl) ?_ ?_
            rotate_left
            · intro W hW; have hW0 := Frm.tr E16.out hW; clear hW; go_simp <;> with_reducible rfl
            try simp only [Act.put, List.setIfInBounds_toArray, List.set_cons_zero, List.set_cons_succ]
            refine rz_take [5, 11, 12] (i := 2) (v := ?_) rfl (by kernel_rfl) (by kernel_rfl) (by kernel_rfl) (by kernel_rfl) (by kernel_rfl) (by kernel_rfl) (fun _ _ _ h => h) (by rfl) ?_ ?_
            rotate_left
            · intro W hW; have hW0 := Frm.tr E16.out hW; clear hW; go_simp <;> with_reducible rfl
            try simp only [Act.put, List.setIfInBounds_toArray, List.set_cons_zero, List.set_cons_succ]
            refine rz_take [4, 5, 11, 12] (i := 3) (v := ?_) rfl (by kernel_rfl) (by kernel_rfl) (by kernel_rfl) (by kernel_rfl) (by kernel_rfl) (by kernel_rfl) (fun _ _ _ h => h) (by rfl) ?_ ?_
            rotate_left
            · intro W hW; have hW0 := Frm.tr E16.out hW; clear hW; go_simp <;> with_reducible rfl
            try simp only [Act.put, List.setIfInBounds_toArray, List.set_cons_zero, List.set_cons_succ]
            refine rz_take [5, 11, 12] (i := 4) (v := ?_) rfl (by kernel_rfl) (by kernel_rfl) (by kernel_rfl) (by kernel_rfl) (by kernel_rfl) (by kernel_rfl) (fun _ _ _ h => h) (by rfl) ?_ ?_
            rotate_left
            · intro W hW; have hW0 := Frm.tr E16.out hW; clear hW; go_simp <;> with_reducible rfl
            try simp only [Act.put, List.setIfInBounds_toArray, List.set_cons_zero, List.set_cons_succ]
            refine rz_take [11, 12] (i := 6) (v := ?_) rfl (by kernel_rfl) (by kernel_rfl) (by kernel_rfl) (by kernel_rfl) (by kernel_rfl) (by kernel_rfl) (fun _ _ _ h => h) (by rfl) ?_ ?_
            rotate_left
            · intro W hW; have hW0 := Frm.tr E16.out hW; clear hW; go_simp <;> with_reducible rfl
            try simp only [Act.put, List.setIfInBounds_toArray, List.set_cons_zero, List.set_cons_succ]
            refine rz_take [8, 11, 12] (i := 7) (v := ?_) rfl (by kernel_rfl) (by kernel_rfl) (by kernel_rfl) (by kernel_rfl) (by kernel_rfl) (by kernel_rfl) (fun _ _ _ h => h) (by rfl) ?_ ?_
            rotate_left
            · intro W hW; have hW0 := Frm.tr E16.out hW; clear hW; go_simp <;> with_reducible rfl
            try simp only [Act.put, List.setIfInBounds_toArray, List.set_cons_zero, List.set_cons_succ]
            refine rz_take [11, 12] (i := 8) (v := ?_) rfl (by kernel_rfl) (by kernel_rfl) (by kernel_rfl) (by kernel_rfl) (by kernel_rfl) (by kernel_rfl) (fun _ _ _ h => h) (by rfl) ?_ ?_
            rotate_left
            · intro W hW; have hW0 := Frm.tr E16.out hW; clear hW; go_simp <;> with_reducible rfl
            try simp only [Act.put, List.setIfInBounds_toArray, List.set_cons_zero, List.set_cons_succ]
            refine rz_take [10, 11, 12] (i := 9) (v := ?_) rfl (by kernel_rfl) (by kernel_rfl) (by kernel_rfl) (by kernel_rfl) (by kernel_rfl) (by kernel_rfl) (fun _ _ _ h => h) (by rfl) ?_ ?_
            rotate_left
            · intro W hW; have hW0 := Frm.tr E16.out hW; clear hW; go_simp <;> with_reducible rfl
            try simp only [Act.put, List.setIfInBounds_toArray, List.set_cons_zero, List.set_cons_succ]
            refine rz_take [11, 12] (i := 10) (v := ?_) rfl (by kernel_rfl) (by kernel_rfl) (by kernel_rfl) (by kernel_rfl) (by kernel_rfl) (by kernel_rfl) (fun _ _ _ h => h) (by rfl) ?_ ?_
            rotate_left
            · intro W hW; have hW0 := Frm.tr E16.out hW; clear hW; go_simp <;> with_reducible rfl
            try simp only [Act.put, List.setIfInBounds_toArray, List.set_cons_zero, List.set_cons_succ]
            refine rz_call (i := 5) rfl (by kernel_rfl) (by rfl) (fun K hK => ?_)
            go_simp
            (go_at_call 17; (with_reducible refine CA.out.mono ?_); rintro e w1 ⟨rfl, ht1, hfr⟩; have T1 := Lib.hid ht1; have hx := hfr.mono (s' := fun k => ¬ K2 k ∨ s k) (fun k h => Or.inl h); refine hK _ _ hx ?_; clear hK K)
            have Ew1 := Lib.hid (Frm.tr E16.out hx)
            clear hx hfr ht1
            try simp only [Act.put, List.setIfInBounds_toArray, List.set_cons_zero, List.set_cons_succ]
            refine rz_call (i := 11) rfl (by kernel_rfl) (by rfl) (fun K hK => ?_)
            go_simp
            (go_at_call 18; (with_reducible refine (CR.out _ T1.out).mono ?_); rintro e w2 ⟨rfl, ht2, hfr⟩; have T2 := Lib.hid ht2; have hx := hfr.mono (s' := fun k => ¬ K2 k ∨ s k) (fun k h => Or.inr h); refine hK _ _ hx ?_; clear hK K)
            have Ew2 := Lib.hid (Frm.tr Ew1.out hx)
            clear hx hfr ht2
            try simp only [Act.put, List.setIfInBounds_toArray, List.set_cons_zero, List.set_cons_succ]
            refine rz_take [] (i := 12) (v := .bool false) rfl (by kernel_rfl) (by kernel_rfl) (by kernel_rfl) (by kernel_rfl) (by kernel_rfl) (by kernel_rfl) (fun _ _ _ h => h) (by rfl) ?_ ?_
            · intro W hW; have hW0 := Frm.tr Ew2.out hW; clear hW; go_simp; all_goals (first | done | rfl | simp)
            try simp only [Act.put, List.setIfInBounds_toArray, List.set_cons_zero, List.set_cons_succ]
            refine rz_done (by kernel_rfl) ?_ _
            clear y0 y1 y2 y3 y4 y5 y6 y7 y8 CA CR T1
            obtain ⟨pn2, hpn⟩ : ∃ z, z = v2.pl.length := ⟨_, rfl⟩
            obtain ⟨sn2, hsn⟩ : ∃ z, z = v2.sl.length := ⟨_, rfl⟩
            obtain ⟨qr, hqr⟩ : ∃ z, z = decide (mostI n ≤ (pn2 : Int)) := ⟨_, rfl⟩
            obtain ⟨qd, hqd⟩ : ∃ z, z = decide (mostI n ≤ (sn2 : Int)) := ⟨_, rfl⟩
            have HQR : Hid (decide (mostI n ≤ (pn2 : Int)) = qr) := hqr.symm
            have HQD : Hid (decide (mostI n ≤ (sn2 : Int)) = qd) := hqd.symm
            have CMO : Hid (∀ V, Calls Try.prog 16 #[.int .i64 n] V fun e w' => e = .returned (.int .i64 (mostI n)) ∧ Ext V w') := fun V => (refMost_any n V (by omega) (by omega)).mono fun e w' h => ⟨h.1, h.2 ▸ Ext.refl _⟩
            have hn2 : 0 ≤ v2.n ∧ v2.n ≤ 5 := by have := HBN2.out.n; omega
            obtain ⟨K3, s3, hT3, hX3, hS3, hO3⟩ := T2.out.at_
            obtain ⟨e9, he9⟩ : ∃ z, z = chE v2 L2 := ⟨_, rfl⟩
            obtain ⟨l9, hl9⟩ : ∃ z, z = chL v2 L2 := ⟨_, rfl⟩
            have hbe := HBR2.out.eqs
            have CRE : Hid (∀ V, Ext w2 V → Calls Try.prog 21 #[.pointer (some ⟨P, 0, none⟩)] V fun e w' => e = .returned (.bool qr) ∧ Ext V w') := fun V h => by
              have h7 := ready_any b P K3 v2 V (hT3.stay h) hn2
              rw [HBN2.out.n, ← hpn, ← hqr] at h7
              exact h7
            have CDO : Hid (∀ V, Ext w2 V → Calls Try.prog 22 #[.pointer (some ⟨P, 0, none⟩)] V fun e w' => e = .returned (.bool qd) ∧ Ext V w') := fun V h => by
              have h7 := done_any b P K3 v2 V (hT3.stay h) hn2
              rw [HBN2.out.n, ← hsn, ← hqd] at h7
              exact h7
            have CCH : Hid (∀ V, Ext w2 V → Calls Try.prog 24 #[.pointer (some ⟨P, 0, none⟩)] V fun e w' => ∃ A c, e = .returned (.agg #[.int .i64 e9, .slice A l9.length c]) ∧ Sl i64 w' A l9 ∧ Ext V w') := fun V h => by
              refine (chain_any b P K3 v2 V (hT3.stay h) (by have := HBN2.out.cll; omega) (by have := HBN2.out.xll; omega) e9 l9 (by rw [he9]; exact hbe.1) (by rw [hl9]; exact hbe.2)).mono ?_
              rintro e w' ⟨u, he, ho, hx⟩
              obtain ⟨A, c, rfl, hs⟩ := own_view ho
              exact ⟨A, c, he, hs, hx⟩
            have CRC : Hid (∀ V, Ext w2 V → Calls Try.prog 25 #[.pointer (some ⟨PX, 0, none⟩)] V fun e w' => ∃ A c, e = .returned (.agg #[.int .i64 e9, .slice A l9.length c]) ∧ Sl i64 w' A l9 ∧ Ext V w') := fun V h => by
              rw [he9, hl9]
              exact rchain_any b PX s3 v2 L2 V (hX3.stay h) (by have := HBN2.out.ll; omega)
            have hl9n : l9.length ≤ 8 := by
              rw [hl9, hbe.2]
              split
              · exact HBN2.out.xll
              · exact HBN2.out.cll
            have CSA : Hid (∀ A B c1 c2 V, Sl i64 V A l9 → Sl i64 V B l9 → Calls Try.prog 23 #[.agg #[.int .i64 e9, .slice A l9.length c1], .agg #[.int .i64 e9, .slice B l9.length c2]] V fun e w' => e = .returned (.bool true) ∧ Ext V w') := fun A B c1 c2 V h1 h2 => by
              have h7 := sameRef_any e9 e9 A B c1 c2 l9 l9 V (by omega) (by omega) h1 h2
              rw [decide_eq_true ⟨rfl, rfl⟩] at h7
              exact h7
            obtain ⟨_, cA3, cc3, V3, F3_, S3_, kX, _, hF3, hS3_, _⟩ := hX3
            obtain ⟨FA3, Fc3, rfl, _⟩ := own_view hF3
            obtain ⟨SA3, Sc3, rfl, _⟩ := own_view hS3_
            rw [← hpn, ← hsn] at kX
            have HKX := Lib.hid kX
            have x6 : ∀ W, Ext w2 W → W.cell? ⟨PX, 6, none⟩ = some (.slice FA3 pn2 Fc3) := fun W h => (HKX.out.stay h).cell 6
            have x7 : ∀ W, Ext w2 W → W.cell? ⟨PX, 7, none⟩ = some (.slice SA3 sn2 Sc3) := fun W h => (HKX.out.stay h).cell 7
            clear hqr hqd hpn hsn hT3 hS3 hO3 he9 hl9 hbe kX hF3 hS3_ hl9n hn2
            generalize hmq : mostI n = mq at *
            go_upto_region 21 with (go_at_call 16; (with_reducible refine (CMO.out _).mono ?_); rintro e w3 ⟨rfl, hx⟩; have E21 := Lib.hid hx; clear hx)
            refine ext_begin (by kernel_rfl) ?_
            have E21d := Lib.hid (Ext.drewR E21.out)
            refine ext_take (i := 0) (v := ?_) rfl (by kernel_rfl) (by kernel_rfl) (by kernel_rfl) (fun _ _ _ h => h) (by rfl) ?_ ?_
            rotate_left
            · intro W hW; have hW0 := Ext.trans E21d.out hW; clear hW; go_simp <;> with_reducible rfl
            try simp only [Act.put, List.setIfInBounds_toArray, List.set_cons_zero, List.set_cons_succ]
            refine ext_take (i := 2) (v := ?_) rfl (by kernel_rfl) (by kernel_rfl) (by kernel_rfl) (fun _ _ _ h => h) (by rfl) ?_ ?_
            rotate_left
            · intro W hW; have hW0 := Ext.trans E21d.out hW; clear hW; go_simp <;> with_reducible rfl
            try simp only [Act.put, List.setIfInBounds_toArray, List.set_cons_zero, List.set_cons_succ]
            refine ext_take (i := 3) (v := ?_) rfl (by kernel_rfl) (by kernel_rfl) (by kernel_rfl) (fun _ _ _ h => h) (by rfl) ?_ ?_
            rotate_left
            · intro W hW; have hW0 := Ext.trans E21d.out hW; clear hW; go_simp <;> with_reducible rfl
            try simp only [Act.put, List.setIfInBounds_toArray, List.set_cons_zero, List.set_cons_succ]
            refine ext_take (i := 4) (v := ?_) rfl (by kernel_rfl) (by kernel_rfl) (by kernel_rfl) (fun _ _ _ h => h) (by rfl) ?_ ?_
            rotate_left
            · intro W hW; have hW0 := Ext.trans E21d.out hW; clear hW; go_simp <;> with_reducible rfl
            try simp only [Act.put, List.setIfInBounds_toArray, List.set_cons_zero, List.set_cons_succ]
            refine ext_take (i := 5) (v := ?_) rfl (by kernel_rfl) (by kernel_rfl) (by kernel_rfl) (fun _ _ _ h => h) (by rfl) ?_ ?_
            rotate_left
            · intro W hW; have hW0 := Ext.trans E21d.out hW; clear hW; go_simp <;> with_reducible rfl
            try simp only [Act.put, List.setIfInBounds_toArray, List.set_cons_zero, List.set_cons_succ]
            refine ext_take (i := 6) (v := ?_) rfl (by kernel_rfl) (by kernel_rfl) (by kernel_rfl) (fun _ _ _ h => h) (by rfl) ?_ ?_
            rotate_left
            · intro W hW; have hW0 := Ext.trans E21d.out hW; clear hW; go_simp <;> with_reducible rfl
            try simp only [Act.put, List.setIfInBounds_toArray, List.set_cons_zero, List.set_cons_succ]
            refine ext_take (i := 7) (v := ?_) rfl (by kernel_rfl) (by kernel_rfl) (by kernel_rfl) (fun _ _ _ h => h) (by rfl) ?_ ?_
            rotate_left
            · intro W hW; have hW0 := Ext.trans E21d.out hW; clear hW; go_simp <;> with_reducible rfl
            try simp only [Act.put, List.setIfInBounds_toArray, List.set_cons_zero, List.set_cons_succ]
            refine ext_take (i := 8) (v := .bool qr) rfl (by kernel_rfl) (by kernel_rfl) (by kernel_rfl) (fun _ _ _ h => h) (by rfl) ?_ ?_
            · intro W hW; have hW0 := Ext.trans E21d.out hW; clear hW; go_simp; all_goals (first | done | rfl | (rw [HQR.out]; done) | (simp [HQR.out]; done))
            try simp only [Act.put, List.setIfInBounds_toArray, List.set_cons_zero, List.set_cons_succ]
            refine ext_call (i := 1) rfl (by kernel_rfl) (by rfl) (fun K' hK => ?_)
            go_simp
            (go_at_call 21; (with_reducible refine (CRE.out _ E21d.out).mono ?_); rintro e w4 ⟨rfl, hx⟩; refine hK _ _ hx ?_; clear hK)
            have Ew4 := Lib.hid (Ext.trans E21d.out hx)
            clear hx
            try simp only [Act.put, List.setIfInBounds_toArray, List.set_cons_zero, List.set_cons_succ]
            refine ext_take (i := 9) (v := .bool false) rfl (by kernel_rfl) (by kernel_rfl) (by kernel_rfl) (fun _ _ _ h => h) (by rfl) ?_ ?_
            · intro W hW; have hW0 := Ext.trans Ew4.out hW; clear hW; go_simp; all_goals (first | done | rfl | simp)
            try simp only [Act.put, List.setIfInBounds_toArray, List.set_cons_zero, List.set_cons_succ]
            refine ext_take (i := 10) (v := ?_) rfl (by kernel_rfl) (by kernel_rfl) (by kernel_rfl) (fun _ _ _ h => h) (by rfl) ?_ ?_
            rotate_left
            · intro W hW; have hW0 := Ext.trans Ew4.out hW; clear hW; go_simp <;> with_reducible rfl
            try simp only [Act.put, List.setIfInBounds_toArray, List.set_cons_zero, List.set_cons_succ]
            refine ext_take (i := 11) (v := ?_) rfl (by kernel_rfl) (by kernel_rfl) (by kernel_rfl) (fun _ _ _ h => h) (by rfl) ?_ ?_
            rotate_left
            · intro W hW; have hW0 := Ext.trans Ew4.out hW; clear hW; go_simp <;> with_reducible rfl
            try simp only [Act.put, List.setIfInBounds_toArray, List.set_cons_zero, List.set_cons_succ]
            refine ext_take (i := 13) (v := ?_) rfl (by kernel_rfl) (by kernel_rfl) (by kernel_rfl) (fun _ _ _ h => h) (by rfl) ?_ ?_
            rotate_left
            · intro W hW; have hW0 := Ext.trans Ew4.out hW; clear hW; go_simp <;> with_reducible rfl
            try simp only [Act.put, List.setIfInBounds_toArray, List.set_cons_zero, List.set_cons_succ]
            refine ext_take (i := 14) (v := ?_) rfl (by kernel_rfl) (by kernel_rfl) (by kernel_rfl) (fun _ _ _ h => h) (by rfl) ?_ ?_
            rotate_left
            · intro W hW; have hW0 := Ext.trans Ew4.out hW; clear hW; go_simp <;> with_reducible rfl
            try simp only [Act.put, List.setIfInBounds_toArray, List.set_cons_zero, List.set_cons_succ]
            refine ext_take (i := 15) (v := ?_) rfl (by kernel_rfl) (by kernel_rfl) (by kernel_rfl) (fun _ _ _ h => h) (by rfl) ?_ ?_
            rotate_left
            · intro W hW; have hW0 := Ext.trans Ew4.out hW; clear hW; go_simp <;> with_reducible rfl
            try simp only [Act.put, List.setIfInBounds_toArray, List.set_cons_zero, List.set_cons_succ]
            refine ext_take (i := 16) (v := ?_) rfl (by kernel_rfl) (by kernel_rfl) (by kernel_rfl) (fun _ _ _ h => h) (by rfl) ?_ ?_
            rotate_left
            · intro W hW; have hW0 := Ext.trans Ew4.out hW; clear hW; go_simp <;> with_reducible rfl
            try simp only [Act.put, List.setIfInBounds_toArray, List.set_cons_zero, List.set_cons_succ]
            refine ext_take (i := 17) (v := ?_) rfl (by kernel_rfl) (by kernel_rfl) (by kernel_rfl) (fun _ _ _ h => h) (by rfl) ?_ ?_
            rotate_left
            · intro W hW; have hW0 := Ext.trans Ew4.out hW; clear hW; go_simp <;> with_reducible rfl
            try simp only [Act.put, List.setIfInBounds_toArray, List.set_cons_zero, List.set_cons_succ]
            refine ext_take (i := 18) (v := ?_) rfl (by kernel_rfl) (by kernel_rfl) (by kernel_rfl) (fun _ _ _ h => h) (by rfl) ?_ ?_
            rotate_left
            · intro W hW; have hW0 := Ext.trans Ew4.out hW; clear hW; go_simp <;> with_reducible rfl
            try simp only [Act.put, List.setIfInBounds_toArray, List.set_cons_zero, List.set_cons_succ]
            refine ext_take (i := 19) (v := .bool qd) rfl (by kernel_rfl) (by kernel_rfl) (by kernel_rfl) (fun _ _ _ h => h) (by rfl) ?_ ?_
            · intro W hW; have hW0 := Ext.trans Ew4.out hW; clear hW; go_simp; all_goals (first | done | rfl | (rw [HQD.out]; done) | (simp [HQD.out]; done))
            try simp only [Act.put, List.setIfInBounds_toArray, List.set_cons_zero, List.set_cons_succ]
            refine ext_call (i := 12) rfl (by kernel_rfl) (by rfl) (fun K' hK => ?_)
            go_simp
            (go_at_call 22; (with_reducible refine (CDO.out _ Ew4.out).mono ?_); rintro e w5 ⟨rfl, hx⟩; refine hK _ _ hx ?_; clear hK)
            have Ew5 := Lib.hid (Ext.trans Ew4.out hx)
            clear hx
            try simp only [Act.put, List.setIfInBounds_toArray, List.set_cons_zero, List.set_cons_succ]
            refine ext_take (i := 20) (v := .bool false) rfl (by kernel_rfl) (by kernel_rfl) (by kernel_rfl) (fun _ _ _ h => h) (by rfl) ?_ ?_
            · intro W hW; have hW0 := Ext.trans Ew5.out hW; clear hW; go_simp; all_goals (first | done | rfl | simp)
            try simp only [Act.put, List.setIfInBounds_toArray, List.set_cons_zero, List.set_cons_succ]
            refine ext_take (i := 21) (v := ?_) rfl (by kernel_rfl) (by kernel_rfl) (by kernel_rfl) (fun _ _ _ h => h) (by rfl) ?_ ?_
            rotate_left
            · intro W hW; have hW0 := Ext.trans Ew5.out hW; clear hW; go_simp <;> with_reducible rfl
            try simp only [Act.put, List.setIfInBounds_toArray, List.set_cons_zero, List.set_cons_succ]
            refine ext_take (i := 22) (v := ?_) rfl (by kernel_rfl) (by kernel_rfl) (by kernel_rfl) (fun _ _ _ h => h) (by rfl) ?_ ?_
            rotate_left
            · intro W hW; have hW0 := Ext.trans Ew5.out hW; clear hW; go_simp <;> with_reducible rfl
            try simp only [Act.put, List.setIfInBounds_toArray, List.set_cons_zero, List.set_cons_succ]
            refine ext_take (i := 23) (v := ?_) rfl (by kernel_rfl) (by kernel_rfl) (by kernel_rfl) (fun _ _ _ h => h) (by rfl) ?_ ?_
            rotate_left
            · intro W hW; have hW0 := Ext.trans Ew5.out hW; clear hW; go_simp <;> with_reducible rfl
            try simp only [Act.put, List.setIfInBounds_toArray, List.set_cons_zero, List.set_cons_succ]
            refine ext_take (i := 25) (v := ?_) rfl (by kernel_rfl) (by kernel_rfl) (by kernel_rfl) (fun _ _ _ h => h) (by rfl) ?_ ?_
            rotate_left
            · intro W hW; have hW0 := Ext.trans Ew5.out hW; clear hW; go_simp <;> with_reducible rfl
            try simp only [Act.put, List.setIfInBounds_toArray, List.set_cons_zero, List.set_cons_succ]
            refine ext_call (i := 24) rfl (by kernel_rfl) (by rfl) (fun K' hK => ?_)
            go_simp
            (go_at_call 24; (with_reducible refine (CCH.out _ Ew5.out).mono ?_); rintro e w6 ⟨A5, c5, rfl, hs5, hx⟩; refine hK _ _ hx ?_; clear hK)
            have Ew6 := Lib.hid (Ext.trans Ew5.out hx)
            have HS5 := Lib.hid hs5; clear hs5
            clear hx
            try simp only [Act.put, List.setIfInBounds_toArray, List.set_cons_zero, List.set_cons_succ]
            refine ext_call (i := 26) rfl (by kernel_rfl) (by rfl) (fun K' hK => ?_)
            go_simp
            (go_at_call 25; (with_reducible refine (CRC.out _ Ew6.out).mono ?_); rintro e w7 ⟨A6, c6, rfl, hs6, hx⟩; refine hK _ _ hx ?_; clear hK)
            have Ew7 := Lib.hid (Ext.trans Ew6.out hx)
            have HS6 := Lib.hid hs6; have HS5' := Lib.hid (HS5.out.stay hx); clear hs6
            clear hx
            try simp only [Act.put, List.setIfInBounds_toArray, List.set_cons_zero, List.set_cons_succ]
            refine ext_call (i := 27) rfl (by kernel_rfl) (by rfl) (fun K' hK => ?_)
            go_simp
            (go_at_call 23; (with_reducible refine (CSA.out _ _ _ _ _ HS5'.out HS6.out).mono ?_); rintro e w8 ⟨rfl, hx⟩; refine hK _ _ hx ?_; clear hK)
            have Ew8 := Lib.hid (Ext.trans Ew7.out hx)
            clear hx
            try simp only [Act.put, List.setIfInBounds_toArray, List.set_cons_zero, List.set_cons_succ]
            refine ext_take (i := 28) (v := ?_) rfl (by kernel_rfl) (by kernel_rfl) (by kernel_rfl) (fun _ _ _ h => h) (by rfl) ?_ ?_
            rotate_left
            · intro W hW; have hW0 := Ext.trans Ew8.out hW; clear hW; go_simp <;> with_reducible rfl
            try simp only [Act.put, List.setIfInBounds_toArray, List.set_cons_zero, List.set_cons_succ]
            refine ext_take (i := 29) (v := ?_) rfl (by kernel_rfl) (by kernel_rfl) (by kernel_rfl) (fun _ _ _ h => h) (by rfl) ?_ ?_
            rotate_left
            · intro W hW; have hW0 := Ext.trans Ew8.out hW; clear hW; go_simp <;> with_reducible rfl
            try simp only [Act.put, List.setIfInBounds_toArray, List.set_cons_zero, List.set_cons_succ]
            refine wpAnyH_done (by kernel_rfl) ?_ _
            go_wp2
            go_roundw
            case rel => exact ⟨j + 1, v2, L2, by omega, by omega, by go_num, T2.out.stay Ew8.out, HBR2, HBN2⟩
            case measure => simp [intOf]; omega
          · have hk1 : (kd == 0) = false := by simp [hk0]
            have CA : Hid (Calls Try.prog 19 #[.pointer (some ⟨P, 0, none⟩), .int .i64 node] wf.drew fun e w' => e = .returned (.bool (yOk v node)) ∧ (TAt w' b P K2 (yNext v node) ∧ XAt w' b PX s v L ∧ Ext w w') ∧ Frm (fun k => ¬ K2 k) wf.drew w') := by
              have h7 := tyes_any b P K2 v node wf.drew HTD.out (by have := HBD.out.n; omega) (by have := HBD.out.sl; omega)
              refine h7.mono ?_
              rintro e w' ⟨he, ht, hk, hb⟩
              have hf := Frm.of_keep hk hb
              exact ⟨he, ⟨ht, (HXD.out).frm hf (fun k hk => ⟨fun hs => hk (HSK2.out k hs), Nat.not_lt.1 (fun h => hk (HOLD2.out k h))⟩), Below.trans HXTD.out (hb.mono HBLE.out)⟩, hf⟩
            have CR : Hid (∀ w1, (TAt w1 b P K2 (yNext v node) ∧ XAt w1 b PX s v L ∧ Ext w w1) → Calls Try.prog 20 #[.pointer (some ⟨PX, 0, none⟩), .int .i64 node] w1 fun e w' => e = .returned (.bool (yOk v node)) ∧ TT w w' b P PX (yNext v node) (yNext v node) (L) ∧ Frm s w1 w') := fun w1 ⟨ht, hx, hw⟩ => by
              have h7 := ryes_any b PX s v L node w1 hx (by have := HBD.out.n; omega) (by have := HBD.out.sl; omega) (by have := HBD.out.pl; omega)
              refine h7.mono ?_
              rintro e w' ⟨he, s', hx', hf, hs'⟩
              refine ⟨he, ⟨⟨_, s', ht.frmK hf HSK2.out, hx', fun k hk => ?_, fun k hk => .inl (HOLD2.out k hk)⟩, HBLE.out, ?_⟩, hf⟩
              · rcases hs' k hk with h | h
                · exact .inl (HSK2.out k h)
                · exact .inr ⟨h, hx'.slt k hk⟩
              · exact Frm.step hw hf hw.size (fun k hk => Nat.le_trans HBLE.out (HSB.out k hk))
            have HBR2 : Hid (BR (yNext v node) (L)) := HBR.out.yes _
            have HBN2 : Hid (Bd n ep cl (yNext v node) (L) (j + 1)) := HBD.out.yes _
            generalize yNext v node = v2 at *
            generalize yOk v node = okk at *
            go_wp2
            refine rz_begin (fun k => ¬ K2 k ∨ s k) [] (by kernel_rfl) ?_
            refine rz_take [3, 7, 8] (i := 0) (v := ?_) rfl (by kernel_rfl) (by kernel_rfl) (by kernel_rfl) (by kernel_rfl) (by kernel_rfl) (by kernel_rfl) (fun _ _ _ h => h) (by rfl) ?_ ?_
            rotate_left
            · intro W hW; have hW0 := Frm.tr E16.out hW; clear hW; go_simp <;> with_reducible rfl
            try simp only [Act.put, List.setIfInBounds_toArray, List.set_cons_zero, List.set_cons_succ]
            refine rz_take [2, 3, 7, 8] (i := 1) (v := ?_) rfl (by kernel_rfl) (by kernel_rfl) (by kernel_rfl) (by kernel_rfl) (by kernel_rfl) (by kernel_rfl) (fun _ _ _ h => h) (by rfl) ?_ ?_
            rotate_left
            · intro W hW; have hW0 := Frm.tr E16.out hW; clear hW; go_simp <;> with_reducible rfl
            try simp only [Act.put, List.setIfInBounds_toArray, List.set_cons_zero, List.set_cons_succ]
            refine rz_take [3, 7, 8] (i := 2) (v := ?_) rfl (by kernel_rfl) (by kernel_rfl) (by kernel_rfl) (by kernel_rfl) (by kernel_rfl) (by kernel_rfl) (fun _ _ _ h => h) (by rfl) ?_ ?_
            rotate_left
            · intro W hW; have hW0 := Frm.tr E16.out hW; clear hW; go_simp <;> with_reducible rfl
            try simp only [Act.put, List.setIfInBounds_toArray, List.set_cons_zero, List.set_cons_succ]
            refine rz_take [7, 8] (i := 4) (v := ?_) rfl (by kernel_rfl) (by kernel_rfl) (by kernel_rfl) (by kernel_rfl) (by kernel_rfl) (by kernel_rfl) (fun _ _ _ h => h) (by rfl) ?_ ?_
            rotate_left
            · intro W hW; have hW0 := Frm.tr E16.out hW; clear hW; go_simp <;> with_reducible rfl
            try simp only [Act.put, List.setIfInBounds_toArray, List.set_cons_zero, List.set_cons_succ]
            refine rz_take [6, 7, 8] (i := 5) (v := ?_) rfl (by kernel_rfl) (by kernel_rfl) (by kernel_rfl) (by kernel_rfl) (by kernel_rfl) (by kernel_rfl) (fun _ _ _ h => h) (by rfl) ?_ ?_
            rotate_left
            · intro W hW; have hW0 := Frm.tr E16.out hW; clear hW; go_simp <;> with_reducible rfl
            try simp only [Act.put, List.setIfInBounds_toArray, List.set_cons_zero, List.set_cons_succ]
            refine rz_take [7, 8] (i := 6) (v := ?_) rfl (by kernel_rfl) (by kernel_rfl) (by kernel_rfl) (by kernel_rfl) (by kernel_rfl) (by kernel_rfl) (fun _ _ _ h => h) (by rfl) ?_ ?_
            rotate_left
            · intro W hW; have hW0 := Frm.tr E16.out hW; clear hW; go_simp <;> with_reducible rfl
            try simp only [Act.put, List.setIfInBounds_toArray, List.set_cons_zero, List.set_cons_succ]
            refine rz_call (i := 3) rfl (by kernel_rfl) (by rfl) (fun K hK => ?_)
            go_simp
            (go_at_call 19; (with_reducible refine CA.out.mono ?_); rintro e w1 ⟨rfl, ht1, hfr⟩; have T1 := Lib.hid ht1; have hx := hfr.mono (s' := fun k => ¬ K2 k ∨ s k) (fun k h => Or.inl h); refine hK _ _ hx ?_; clear hK K)
            have Ew1 := Lib.hid (Frm.tr E16.out hx)
            clear hx hfr ht1
            try simp only [Act.put, List.setIfInBounds_toArray, List.set_cons_zero, List.set_cons_succ]
            refine rz_call (i := 7) rfl (by kernel_rfl) (by rfl) (fun K hK => ?_)
            go_simp
            (go_at_call 20; (with_reducible refine (CR.out _ T1.out).mono ?_); rintro e w2 ⟨rfl, ht2, hfr⟩; have T2 := Lib.hid ht2; have hx := hfr.mono (s' := fun k => ¬ K2 k ∨ s k) (fun k h => Or.inr h); refine hK _ _ hx ?_; clear hK K)
            have Ew2 := Lib.hid (Frm.tr Ew1.out hx)
            clear hx hfr ht2
            try simp only [Act.put, List.setIfInBounds_toArray, List.set_cons_zero, List.set_cons_succ]
            refine rz_take [] (i := 8) (v := .bool false) rfl (by kernel_rfl) (by kernel_rfl) (by kernel_rfl) (by kernel_rfl) (by kernel_rfl) (by kernel_rfl) (fun _ _ _ h => h) (by rfl) ?_ ?_
            · intro W hW; have hW0 := Frm.tr Ew2.out hW; clear hW; go_simp; all_goals (first | done | rfl | simp)
            try simp only [Act.put, List.setIfInBounds_toArray, List.set_cons_zero, List.set_cons_succ]
            refine rz_done (by kernel_rfl) ?_ _
            clear y0 y1 y2 y3 y4 y5 y6 y7 y8 CA CR T1
            obtain ⟨pn2, hpn⟩ : ∃ z, z = v2.pl.length := ⟨_, rfl⟩
            obtain ⟨sn2, hsn⟩ : ∃ z, z = v2.sl.length := ⟨_, rfl⟩
            obtain ⟨qr, hqr⟩ : ∃ z, z = decide (mostI n ≤ (pn2 : Int)) := ⟨_, rfl⟩
            obtain ⟨qd, hqd⟩ : ∃ z, z = decide (mostI n ≤ (sn2 : Int)) := ⟨_, rfl⟩
            have HQR : Hid (decide (mostI n ≤ (pn2 : Int)) = qr) := hqr.symm
            have HQD : Hid (decide (mostI n ≤ (sn2 : Int)) = qd) := hqd.symm
            have CMO : Hid (∀ V, Calls Try.prog 16 #[.int .i64 n] V fun e w' => e = .returned (.int .i64 (mostI n)) ∧ Ext V w') := fun V => (refMost_any n V (by omega) (by omega)).mono fun e w' h => ⟨h.1, h.2 ▸ Ext.refl _⟩
            have hn2 : 0 ≤ v2.n ∧ v2.n ≤ 5 := by have := HBN2.out.n; omega
            obtain ⟨K3, s3, hT3, hX3, hS3, hO3⟩ := T2.out.at_
            obtain ⟨e9, he9⟩ : ∃ z, z = chE v2 L := ⟨_, rfl⟩
            obtain ⟨l9, hl9⟩ : ∃ z, z = chL v2 L := ⟨_, rfl⟩
            have hbe := HBR2.out.eqs
            have CRE : Hid (∀ V, Ext w2 V → Calls Try.prog 21 #[.pointer (some ⟨P, 0, none⟩)] V fun e w' => e = .returned (.bool qr) ∧ Ext V w') := fun V h => by
              have h7 := ready_any b P K3 v2 V (hT3.stay h) hn2
              rw [HBN2.out.n, ← hpn, ← hqr] at h7
              exact h7
            have CDO : Hid (∀ V, Ext w2 V → Calls Try.prog 22 #[.pointer (some ⟨P, 0, none⟩)] V fun e w' => e = .returned (.bool qd) ∧ Ext V w') := fun V h => by
              have h7 := done_any b P K3 v2 V (hT3.stay h) hn2
              rw [HBN2.out.n, ← hsn, ← hqd] at h7
              exact h7
            have CCH : Hid (∀ V, Ext w2 V → Calls Try.prog 24 #[.pointer (some ⟨P, 0, none⟩)] V fun e w' => ∃ A c, e = .returned (.agg #[.int .i64 e9, .slice A l9.length c]) ∧ Sl i64 w' A l9 ∧ Ext V w') := fun V h => by
              refine (chain_any b P K3 v2 V (hT3.stay h) (by have := HBN2.out.cll; omega) (by have := HBN2.out.xll; omega) e9 l9 (by rw [he9]; exact hbe.1) (by rw [hl9]; exact hbe.2)).mono ?_
              rintro e w' ⟨u, he, ho, hx⟩
              obtain ⟨A, c, rfl, hs⟩ := own_view ho
              exact ⟨A, c, he, hs, hx⟩
            have CRC : Hid (∀ V, Ext w2 V → Calls Try.prog 25 #[.pointer (some ⟨PX, 0, none⟩)] V fun e w' => ∃ A c, e = .returned (.agg #[.int .i64 e9, .slice A l9.length c]) ∧ Sl i64 w' A l9 ∧ Ext V w') := fun V h => by
              rw [he9, hl9]
              exact rchain_any b PX s3 v2 L V (hX3.stay h) (by have := HBN2.out.ll; omega)
            have hl9n : l9.length ≤ 8 := by
              rw [hl9, hbe.2]
              split
              · exact HBN2.out.xll
              · exact HBN2.out.cll
            have CSA : Hid (∀ A B c1 c2 V, Sl i64 V A l9 → Sl i64 V B l9 → Calls Try.prog 23 #[.agg #[.int .i64 e9, .slice A l9.length c1], .agg #[.int .i64 e9, .slice B l9.length c2]] V fun e w' => e = .returned (.bool true) ∧ Ext V w') := fun A B c1 c2 V h1 h2 => by
              have h7 := sameRef_any e9 e9 A B c1 c2 l9 l9 V (by omega) (by omega) h1 h2
              rw [decide_eq_true ⟨rfl, rfl⟩] at h7
              exact h7
            obtain ⟨_, cA3, cc3, V3, F3_, S3_, kX, _, hF3, hS3_, _⟩ := hX3
            obtain ⟨FA3, Fc3, rfl, _⟩ := own_view hF3
            obtain ⟨SA3, Sc3, rfl, _⟩ := own_view hS3_
            rw [← hpn, ← hsn] at kX
            have HKX := Lib.hid kX
            have x6 : ∀ W, Ext w2 W → W.cell? ⟨PX, 6, none⟩ = some (.slice FA3 pn2 Fc3) := fun W h => (HKX.out.stay h).cell 6
            have x7 : ∀ W, Ext w2 W → W.cell? ⟨PX, 7, none⟩ = some (.slice SA3 sn2 Sc3) := fun W h => (HKX.out.stay h).cell 7
            clear hqr hqd hpn hsn hT3 hS3 hO3 he9 hl9 hbe kX hF3 hS3_ hl9n hn2
            generalize hmq : mostI n = mq at *
            go_upto_region 21 with (go_at_call 16; (with_reducible refine (CMO.out _).mono ?_); rintro e w3 ⟨rfl, hx⟩; have E21 := Lib.hid hx; clear hx)
            refine ext_begin (by kernel_rfl) ?_
            have E21d := Lib.hid (Ext.drewR E21.out)
            refine ext_take (i := 0) (v := ?_) rfl (by kernel_rfl) (by kernel_rfl) (by kernel_rfl) (fun _ _ _ h => h) (by rfl) ?_ ?_
            rotate_left
            · intro W hW; have hW0 := Ext.trans E21d.out hW; clear hW; go_simp <;> with_reducible rfl
            try simp only [Act.put, List.setIfInBounds_toArray, List.set_cons_zero, List.set_cons_succ]
            refine ext_take (i := 2) (v := ?_) rfl (by kernel_rfl) (by kernel_rfl) (by kernel_rfl) (fun _ _ _ h => h) (by rfl) ?_ ?_
            rotate_left
            · intro W hW; have hW0 := Ext.trans E21d.out hW; clear hW; go_simp <;> with_reducible rfl
            try simp only [Act.put, List.setIfInBounds_toArray, List.set_cons_zero, List.set_cons_succ]
            refine ext_take (i := 3) (v := ?_) rfl (by kernel_rfl) (by kernel_rfl) (by kernel_rfl) (fun _ _ _ h => h) (by rfl) ?_ ?_
            rotate_left
            · intro W hW; have hW0 := Ext.trans E21d.out hW; clear hW; go_simp <;> with_reducible rfl
            try simp only [Act.put, List.setIfInBounds_toArray, List.set_cons_zero, List.set_cons_succ]
            refine ext_take (i := 4) (v := ?_) rfl (by kernel_rfl) (by kernel_rfl) (by kernel_rfl) (fun _ _ _ h => h) (by rfl) ?_ ?_
            rotate_left
            · intro W hW; have hW0 := Ext.trans E21d.out hW; clear hW; go_simp <;> with_reducible rfl
            try simp only [Act.put, List.setIfInBounds_toArray, List.set_cons_zero, List.set_cons_succ]
            refine ext_take (i := 5) (v := ?_) rfl (by kernel_rfl) (by kernel_rfl) (by kernel_rfl) (fun _ _ _ h => h) (by rfl) ?_ ?_
            rotate_left
            · intro W hW; have hW0 := Ext.trans E21d.out hW; clear hW; go_simp <;> with_reducible rfl
            try simp only [Act.put, List.setIfInBounds_toArray, List.set_cons_zero, List.set_cons_succ]
            refine ext_take (i := 6) (v := ?_) rfl (by kernel_rfl) (by kernel_rfl) (by kernel_rfl) (fun _ _ _ h => h) (by rfl) ?_ ?_
            rotate_left
            · intro W hW; have hW0 := Ext.trans E21d.out hW; clear hW; go_simp <;> with_reducible rfl
            try simp only [Act.put, List.setIfInBounds_toArray, List.set_cons_zero, List.set_cons_succ]
            refine ext_take (i := 7) (v := ?_) rfl (by kernel_rfl) (by kernel_rfl) (by kernel_rfl) (fun _ _ _ h => h) (by rfl) ?_ ?_
            rotate_left
            · intro W hW; have hW0 := Ext.trans E21d.out hW; clear hW; go_simp <;> with_reducible rfl
            try simp only [Act.put, List.setIfInBounds_toArray, List.set_cons_zero, List.set_cons_succ]
            refine ext_take (i := 8) (v := .bool qr) rfl (by kernel_rfl) (by kernel_rfl) (by kernel_rfl) (fun _ _ _ h => h) (by rfl) ?_ ?_
            · intro W hW; have hW0 := Ext.trans E21d.out hW; clear hW; go_simp; all_goals (first | done | rfl | (rw [HQR.out]; done) | (simp [HQR.out]; done))
            try simp only [Act.put, List.setIfInBounds_toArray, List.set_cons_zero, List.set_cons_succ]
            refine ext_call (i := 1) rfl (by kernel_rfl) (by rfl) (fun K' hK => ?_)
            go_simp
            (go_at_call 21; (with_reducible refine (CRE.out _ E21d.out).mono ?_); rintro e w4 ⟨rfl, hx⟩; refine hK _ _ hx ?_; clear hK)
            have Ew4 := Lib.hid (Ext.trans E21d.out hx)
            clear hx
            try simp only [Act.put, List.setIfInBounds_toArray, List.set_cons_zero, List.set_cons_succ]
            refine ext_take (i := 9) (v := .bool false) rfl (by kernel_rfl) (by kernel_rfl) (by kernel_rfl) (fun _ _ _ h => h) (by rfl) ?_ ?_
            · intro W hW; have hW0 := Ext.trans Ew4.out hW; clear hW; go_simp; all_goals (first | done | rfl | simp)
            try simp only [Act.put, List.setIfInBounds_toArray, List.set_cons_zero, List.set_cons_succ]
            refine ext_take (i := 10) (v := ?_) rfl (by kernel_rfl) (by kernel_rfl) (by kernel_rfl) (fun _ _ _ h => h) (by rfl) ?_ ?_
            rotate_left
            · intro W hW; have hW0 := Ext.trans Ew4.out hW; clear hW; go_simp <;> with_reducible rfl
            try simp only [Act.put, List.setIfInBounds_toArray, List.set_cons_zero, List.set_cons_succ]
            refine ext_take (i := 11) (v := ?_) rfl (by kernel_rfl) (by kernel_rfl) (by kernel_rfl) (fun _ _ _ h => h) (by rfl) ?_ ?_
            rotate_left
            · intro W hW; have hW0 := Ext.trans Ew4.out hW; clear hW; go_simp <;> with_reducible rfl
            try simp only [Act.put, List.setIfInBounds_toArray, List.set_cons_zero, List.set_cons_succ]
            refine ext_take (i := 13) (v := ?_) rfl (by kernel_rfl) (by kernel_rfl) (by kernel_rfl) (fun _ _ _ h => h) (by rfl) ?_ ?_
            rotate_left
            · intro W hW; have hW0 := Ext.trans Ew4.out hW; clear hW; go_simp <;> with_reducible rfl
            try simp only [Act.put, List.setIfInBounds_toArray, List.set_cons_zero, List.set_cons_succ]
            refine ext_take (i := 14) (v := ?_) rfl (by kernel_rfl) (by kernel_rfl) (by kernel_rfl) (fun _ _ _ h => h) (by rfl) ?_ ?_
            rotate_left
            · intro W hW; have hW0 := Ext.trans Ew4.out hW; clear hW; go_simp <;> with_reducible rfl
            try simp only [Act.put, List.setIfInBounds_toArray, List.set_cons_zero, List.set_cons_succ]
            refine ext_take (i := 15) (v := ?_) rfl (by kernel_rfl) (by kernel_rfl) (by kernel_rfl) (fun _ _ _ h => h) (by rfl) ?_ ?_
            rotate_left
            · intro W hW; have hW0 := Ext.trans Ew4.out hW; clear hW; go_simp <;> with_reducible rfl
            try simp only [Act.put, List.setIfInBounds_toArray, List.set_cons_zero, List.set_cons_succ]
            refine ext_take (i := 16) (v := ?_) rfl (by kernel_rfl) (by kernel_rfl) (by kernel_rfl) (fun _ _ _ h => h) (by rfl) ?_ ?_
            rotate_left
            · intro W hW; have hW0 := Ext.trans Ew4.out hW; clear hW; go_simp <;> with_reducible rfl
            try simp only [Act.put, List.setIfInBounds_toArray, List.set_cons_zero, List.set_cons_succ]
            refine ext_take (i := 17) (v := ?_) rfl (by kernel_rfl) (by kernel_rfl) (by kernel_rfl) (fun _ _ _ h => h) (by rfl) ?_ ?_
            rotate_left
            · intro W hW; have hW0 := Ext.trans Ew4.out hW; clear hW; go_simp <;> with_reducible rfl
            try simp only [Act.put, List.setIfInBounds_toArray, List.set_cons_zero, List.set_cons_succ]
            refine ext_take (i := 18) (v := ?_) rfl (by kernel_rfl) (by kernel_rfl) (by kernel_rfl) (fun _ _ _ h => h) (by rfl) ?_ ?_
            rotate_left
            · intro W hW; have hW0 := Ext.trans Ew4.out hW; clear hW; go_simp <;> with_reducible rfl
            try simp only [Act.put, List.setIfInBounds_toArray, List.set_cons_zero, List.set_cons_succ]
            refine ext_take (i := 19) (v := .bool qd) rfl (by kernel_rfl) (by kernel_rfl) (by kernel_rfl) (fun _ _ _ h => h) (by rfl) ?_ ?_
            · intro W hW; have hW0 := Ext.trans Ew4.out hW; clear hW; go_simp; all_goals (first | done | rfl | (rw [HQD.out]; done) | (simp [HQD.out]; done))
            try simp only [Act.put, List.setIfInBounds_toArray, List.set_cons_zero, List.set_cons_succ]
            refine ext_call (i := 12) rfl (by kernel_rfl) (by rfl) (fun K' hK => ?_)
            go_simp
            (go_at_call 22; (with_reducible refine (CDO.out _ Ew4.out).mono ?_); rintro e w5 ⟨rfl, hx⟩; refine hK _ _ hx ?_; clear hK)
            have Ew5 := Lib.hid (Ext.trans Ew4.out hx)
            clear hx
            try simp only [Act.put, List.setIfInBounds_toArray, List.set_cons_zero, List.set_cons_succ]
            refine ext_take (i := 20) (v := .bool false) rfl (by kernel_rfl) (by kernel_rfl) (by kernel_rfl) (fun _ _ _ h => h) (by rfl) ?_ ?_
            · intro W hW; have hW0 := Ext.trans Ew5.out hW; clear hW; go_simp; all_goals (first | done | rfl | simp)
            try simp only [Act.put, List.setIfInBounds_toArray, List.set_cons_zero, List.set_cons_succ]
            refine ext_take (i := 21) (v := ?_) rfl (by kernel_rfl) (by kernel_rfl) (by kernel_rfl) (fun _ _ _ h => h) (by rfl) ?_ ?_
            rotate_left
            · intro W hW; have hW0 := Ext.trans Ew5.out hW; clear hW; go_simp <;> with_reducible rfl
            try simp only [Act.put, List.setIfInBounds_toArray, List.set_cons_zero, List.set_cons_succ]
            refine ext_take (i := 22) (v := ?_) rfl (by kernel_rfl) (by kernel_rfl) (by kernel_rfl) (fun _ _ _ h => h) (by rfl) ?_ ?_
            rotate_left
            · intro W hW; have hW0 := Ext.trans Ew5.out hW; clear hW; go_simp <;> with_reducible rfl
            try simp only [Act.put, List.setIfInBounds_toArray, List.set_cons_zero, List.set_cons_succ]
            refine ext_take (i := 23) (v := ?_) rfl (by kernel_rfl) (by kernel_rfl) (by kernel_rfl) (fun _ _ _ h => h) (by rfl) ?_ ?_
            rotate_left
            · intro W hW; have hW0 := Ext.trans Ew5.out hW; clear hW; go_simp <;> with_reducible rfl
            try simp only [Act.put, List.setIfInBounds_toArray, List.set_cons_zero, List.set_cons_succ]
            refine ext_take (i := 25) (v := ?_) rfl (by kernel_rfl) (by kernel_rfl) (by kernel_rfl) (fun _ _ _ h => h) (by rfl) ?_ ?_
            rotate_left
            · intro W hW; have hW0 := Ext.trans Ew5.out hW; clear hW; go_simp <;> with_reducible rfl
            try simp only [Act.put, List.setIfInBounds_toArray, List.set_cons_zero, List.set_cons_succ]
            refine ext_call (i := 24) rfl (by kernel_rfl) (by rfl) (fun K' hK => ?_)
            go_simp
            (go_at_call 24; (with_reducible refine (CCH.out _ Ew5.out).mono ?_); rintro e w6 ⟨A5, c5, rfl, hs5, hx⟩; refine hK _ _ hx ?_; clear hK)
            have Ew6 := Lib.hid (Ext.trans Ew5.out hx)
            have HS5 := Lib.hid hs5; clear hs5
            clear hx
            try simp only [Act.put, List.setIfInBounds_toArray, List.set_cons_zero, List.set_cons_succ]
            refine ext_call (i := 26) rfl (by kernel_rfl) (by rfl) (fun K' hK => ?_)
            go_simp
            (go_at_call 25; (with_reducible refine (CRC.out _ Ew6.out).mono ?_); rintro e w7 ⟨A6, c6, rfl, hs6, hx⟩; refine hK _ _ hx ?_; clear hK)
            have Ew7 := Lib.hid (Ext.trans Ew6.out hx)
            have HS6 := Lib.hid hs6; have HS5' := Lib.hid (HS5.out.stay hx); clear hs6
            clear hx
            try simp only [Act.put, List.setIfInBounds_toArray, List.set_cons_zero, List.set_cons_succ]
            refine ext_call (i := 27) rfl (by kernel_rfl) (by rfl) (fun K' hK => ?_)
            go_simp
            (go_at_call 23; (with_reducible refine (CSA.out _ _ _ _ _ HS5'.out HS6.out).mono ?_); rintro e w8 ⟨rfl, hx⟩; refine hK _ _ hx ?_; clear hK)
            have Ew8 := Lib.hid (Ext.trans Ew7.out hx)
            clear hx
            try simp only [Act.put, List.setIfInBounds_toArray, List.set_cons_zero, List.set_cons_succ]
            refine ext_take (i := 28) (v := ?_) rfl (by kernel_rfl) (by kernel_rfl) (by kernel_rfl) (fun _ _ _ h => h) (by rfl) ?_ ?_
            rotate_left
            · intro W hW; have hW0 := Ext.trans Ew8.out hW; clear hW; go_simp <;> with_reducible rfl
            try simp only [Act.put, List.setIfInBounds_toArray, List.set_cons_zero, List.set_cons_succ]
            refine ext_take (i := 29) (v := ?_) rfl (by kernel_rfl) (by kernel_rfl) (by kernel_rfl) (fun _ _ _ h => h) (by rfl) ?_ ?_
            rotate_left
            · intro W hW; have hW0 := Ext.trans Ew8.out hW; clear hW; go_simp <;> with_reducible rfl
            try simp only [Act.put, List.setIfInBounds_toArray, List.set_cons_zero, List.set_cons_succ]
            refine wpAnyH_done (by kernel_rfl) ?_ _
            go_wp2
            go_roundw
            case rel => exact ⟨j + 1, v2, L, by omega, by omega, by go_num, T2.out.stay Ew8.out, HBR2, HBN2⟩
            case measure => simp [intOf]; omega
        · have hend : ¬ ((j : Int) < (N : Int)) ∨ ((j : Int) < (N : Int)) ∧ ¬ (j : Int) < 40 := by omega
          rcases hend with h3 | ⟨h3, h4⟩
          · go_wp2_with (go_at_call 11; (with_reducible refine (CT.out _).mono ?_); rintro e w5 ⟨rfl, hx⟩; have X5 := Lib.hid hx; clear hx)
            try go_ret
            exact hD.out _ _ ⟨rfl, Ext.trans HT.out.ext X5.out⟩
          · go_wp2_with (go_at_call 11; (with_reducible refine (CT.out _).mono ?_); rintro e w5 ⟨rfl, hx⟩; have X5 := Lib.hid hx; clear hx)
            try go_ret
            exact hD.out _ _ ⟨rfl, Ext.trans HT.out.ext X5.out⟩
set_option maxRecDepth 100000 in
theorem law_tallyPlays {H : Type} {enc : TypeId × Value → H} (W : World) (base : Nat) (args : Array Value) (ds : List (DataW H)) (p : List MemPlace)
    (hval : ∀ (j : Nat) t v, Try.f3.params[j]? = some t → args[j]? = some v → Value.okWide Try.prog W .any base t v)
    (hA : DataW.TrodAll enc Try.prog W 0 (fun _ => true) true Try.f3.params.toList args.toList ds p) :
    Calls Try.prog 3 args W fun e W' => e = .returned (.bool true) ∧ Below W.heap.size W W' := by
  rw [Try.params3] at hA hval
  obtain ⟨v0, vs0, d0, ds0, p0, q0, hargs, rfl, rfl, h0, r0⟩ := trodAll_cons hA
  obtain ⟨v1, vs1, d1, ds1, p1, q1, rfl, rfl, rfl, h1, r1⟩ := trodAll_cons r0
  obtain ⟨v2, vs2, d2, ds2, p2, q2, rfl, rfl, rfl, h2, r2⟩ := trodAll_cons r1
  obtain ⟨v3, vs3, d3, ds3, p3, q3, rfl, rfl, rfl, h3, r3⟩ := trodAll_cons r2
  obtain ⟨rfl, rfl, rfl⟩ := trodAll_nil r3
  obtain rfl : args = #[v0, v1, v2, v3] := by cases args; simp_all
  obtain ⟨a0, rfl, rfl, rfl, w0⟩ := open_int Try.underlying3 (hval 0 3 v0 rfl rfl) h0
  obtain ⟨r1_, n1, rfl, wr1, wn1⟩ := open_bal14 (hval 1 23 v1 rfl rfl) h1
  obtain ⟨ep2, A2, c2, l2, rfl, w2, x2, y2, z2, g2⟩ := open_chain (hval 2 26 v2 rfl rfl) h2
  obtain ⟨A3, n3, c3, rfl⟩ := okWide_slice Try.underlying27 (hval 3 27 v3 rfl rfl)
  obtain ⟨fuel3, hf3⟩ := h3
  obtain ⟨B3, l3, e3, hcs3, x3, y3, z3⟩ := open_ops14 hf3
  simp only [Value.cells, List.cons.injEq, Value.slice.injEq, and_true] at hcs3
  obtain ⟨rfl, rfl, rfl⟩ := hcs3
  exact walk_tallyPlays a0 r1_ n1 ep2 A2 c2 l2 A3 l3 c3 W (Nat.le_trans x2 y2) x2 z2 (bounds_i64 w0) x3 (Nat.le_trans x3 y3) z3
end Go.Proofs.Ytkdcbidbciognaa
