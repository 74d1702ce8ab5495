/-
  The request of bytes, the document's.
-/
import Derived.Test.YtdbnaflaobncgaaItemGetReq
import Derived.Test.YtdbnaflaobncgaaRefMay
namespace Go.Proofs.Ytdbnaflaobncgaa
set_option linter.unusedVariables false
set_option linter.unusedSimpArgs false
open Go.RowKit

/-- the document's GetReq on its way: its result's block, its reader, its request -/
structure GS (w V : World) (b : Nat) (l : List UInt8) (bad : Bool) (cs : Array Value) : Prop where
  x : Ext w V
  hb : b = w.heap.size
  r : Blk V b 30 #[.int .i64 0, .int .i64 0, .int .i64 0, .int .i64 0, .int .i64 0, .string ⟨#[]⟩]
  f : RfAt V (b + 1) l bad
  q : Blk V (b + 2) 30 cs
theorem GS.set0 {w V : World} {b : Nat} {l : List UInt8} {bad : Bool} {x0 x1 x2 x3 x4 x5 : Value} (h : GS w V b l bad #[x0, x1, x2, x3, x4, x5]) (u : Value) : GS w (V.setCell ⟨b + 2, 0, none⟩ u) b l bad #[u, x1, x2, x3, x4, x5] :=
  ⟨Frm.step h.x (Frm.of_set (s := fun k => k = b + 2) _ _ _ rfl) h.x.size (fun k hk => by subst hk; have := h.hb; omega), h.hb, h.r.frm (Frm.of_set (s := fun k => k = b + 2) _ _ _ rfl) (show ¬ b = b + 2 by omega), h.f.frm (Frm.of_set (s := fun k => k = b + 2) _ _ _ rfl) (show ¬ b + 1 = b + 2 by omega), h.q.set 0 u⟩
theorem GS.set1 {w V : World} {b : Nat} {l : List UInt8} {bad : Bool} {x0 x1 x2 x3 x4 x5 : Value} (h : GS w V b l bad #[x0, x1, x2, x3, x4, x5]) (u : Value) : GS w (V.setCell ⟨b + 2, 1, none⟩ u) b l bad #[x0, u, x2, x3, x4, x5] :=
  ⟨Frm.step h.x (Frm.of_set (s := fun k => k = b + 2) _ _ _ rfl) h.x.size (fun k hk => by subst hk; have := h.hb; omega), h.hb, h.r.frm (Frm.of_set (s := fun k => k = b + 2) _ _ _ rfl) (show ¬ b = b + 2 by omega), h.f.frm (Frm.of_set (s := fun k => k = b + 2) _ _ _ rfl) (show ¬ b + 1 = b + 2 by omega), h.q.set 1 u⟩
theorem GS.set2 {w V : World} {b : Nat} {l : List UInt8} {bad : Bool} {x0 x1 x2 x3 x4 x5 : Value} (h : GS w V b l bad #[x0, x1, x2, x3, x4, x5]) (u : Value) : GS w (V.setCell ⟨b + 2, 2, none⟩ u) b l bad #[x0, x1, u, x3, x4, x5] :=
  ⟨Frm.step h.x (Frm.of_set (s := fun k => k = b + 2) _ _ _ rfl) h.x.size (fun k hk => by subst hk; have := h.hb; omega), h.hb, h.r.frm (Frm.of_set (s := fun k => k = b + 2) _ _ _ rfl) (show ¬ b = b + 2 by omega), h.f.frm (Frm.of_set (s := fun k => k = b + 2) _ _ _ rfl) (show ¬ b + 1 = b + 2 by omega), h.q.set 2 u⟩
theorem GS.set3 {w V : World} {b : Nat} {l : List UInt8} {bad : Bool} {x0 x1 x2 x3 x4 x5 : Value} (h : GS w V b l bad #[x0, x1, x2, x3, x4, x5]) (u : Value) : GS w (V.setCell ⟨b + 2, 3, none⟩ u) b l bad #[x0, x1, x2, u, x4, x5] :=
  ⟨Frm.step h.x (Frm.of_set (s := fun k => k = b + 2) _ _ _ rfl) h.x.size (fun k hk => by subst hk; have := h.hb; omega), h.hb, h.r.frm (Frm.of_set (s := fun k => k = b + 2) _ _ _ rfl) (show ¬ b = b + 2 by omega), h.f.frm (Frm.of_set (s := fun k => k = b + 2) _ _ _ rfl) (show ¬ b + 1 = b + 2 by omega), h.q.set 3 u⟩
theorem GS.set4 {w V : World} {b : Nat} {l : List UInt8} {bad : Bool} {x0 x1 x2 x3 x4 x5 : Value} (h : GS w V b l bad #[x0, x1, x2, x3, x4, x5]) (u : Value) : GS w (V.setCell ⟨b + 2, 4, none⟩ u) b l bad #[x0, x1, x2, x3, u, x5] :=
  ⟨Frm.step h.x (Frm.of_set (s := fun k => k = b + 2) _ _ _ rfl) h.x.size (fun k hk => by subst hk; have := h.hb; omega), h.hb, h.r.frm (Frm.of_set (s := fun k => k = b + 2) _ _ _ rfl) (show ¬ b = b + 2 by omega), h.f.frm (Frm.of_set (s := fun k => k = b + 2) _ _ _ rfl) (show ¬ b + 1 = b + 2 by omega), h.q.set 4 u⟩
theorem GS.set5 {w V : World} {b : Nat} {l : List UInt8} {bad : Bool} {x0 x1 x2 x3 x4 x5 : Value} (h : GS w V b l bad #[x0, x1, x2, x3, x4, x5]) (u : Value) : GS w (V.setCell ⟨b + 2, 5, none⟩ u) b l bad #[x0, x1, x2, x3, x4, u] :=
  ⟨Frm.step h.x (Frm.of_set (s := fun k => k = b + 2) _ _ _ rfl) h.x.size (fun k hk => by subst hk; have := h.hb; omega), h.hb, h.r.frm (Frm.of_set (s := fun k => k = b + 2) _ _ _ rfl) (show ¬ b = b + 2 by omega), h.f.frm (Frm.of_set (s := fun k => k = b + 2) _ _ _ rfl) (show ¬ b + 1 = b + 2 by omega), h.q.set 5 u⟩
theorem GS.num {w V V' : World} {b : Nat} {l l' : List UInt8} {bad bad' : Bool} {cs : Array Value} (h : GS w V b l bad cs) (hf : Frm (fun k => k = b + 1) V V') (hr : RfAt V' (b + 1) l' bad') : GS w V' b l' bad' cs :=
  ⟨Frm.step h.x hf h.x.size (fun k hk => by subst hk; have := h.hb; omega), h.hb, h.r.frm hf (show ¬ b = b + 1 by omega), hr, h.q.frm hf (show ¬ b + 2 = b + 1 by omega)⟩

theorem refN_is (l : List UInt8) (bad : Bool) (b : Nat) (w : World) (hl : l.length ≤ 1000000000) : ∃ v l1 b1, rfNum l bad 1099511627776 = (v, l1, b1) ∧ l1.length ≤ 1000000000 ∧ v ≤ 1099511627776 ∧
    Hid (∀ {cs : Array Value} V, GS w V b l bad cs → Calls Try.prog 59 #[.pointer (some ⟨b + 1, 0, none⟩), .int .u64 1099511627776] V fun e w' => e = .returned (.int .u64 v) ∧ GS w w' b l1 b1 cs) := by
  have h := fun V H => refNumR_any (b + 1) l bad 1099511627776 V H hl
  have hlen := rfNum_len l bad 1099511627776
  generalize rfNum l bad 1099511627776 = x at *
  obtain ⟨v1, l1, b1⟩ := x
  exact ⟨v1, l1, b1, rfl, Nat.le_trans hlen.1 hl, hlen.2, fun {cs} V H => (h V H.f).mono fun e w' ⟨h1, h2, h3⟩ => ⟨h1, H.num h3 h2⟩⟩

set_option maxRecDepth 8000 in
set_option maxHeartbeats 16000000 in
theorem refGetReq_any (l : List UInt8) (w : World) (hl : l.length ≤ 1000000000) :
    Calls Try.prog 37 #[.string (str l)] w fun e w' => ∃ q ec, GotQ l q ec ∧ e = .returned (.tuple #[q.val, .int .i64 ec]) ∧ Ext w w' := by
  refine hide_post fun D hD => ?_
  obtain ⟨b, hb⟩ : ∃ b, b = w.heap.size := ⟨_, rfl⟩
  obtain ⟨v1, l1, b1, e1, hl1, hv1, C1⟩ := refN_is l false b w hl
  obtain ⟨v2, l2, b2, e2, hl2, hv2, C2⟩ := refN_is l1 b1 b w hl1
  obtain ⟨v3, l3, b3, e3, hl3, hv3, C3⟩ := refN_is l2 b2 b w hl2
  obtain ⟨v4, l4, b4, e4, hl4, hv4, C4⟩ := refN_is l3 b3 b w hl3
  obtain ⟨v5, l5, b5, e5, hl5, hv5, C5⟩ := refN_is l4 b4 b w hl4
  have CT : Hid (∀ {cs : Array Value} V, GS w V b l5 b5 cs → Calls Try.prog 60 #[.pointer (some ⟨b + 1, 0, none⟩), .int .i64 1048576] V fun e w' => e = .returned (.string (str (rfText l5 b5 1048576).1)) ∧ GS w w' b (rfText l5 b5 1048576).2.1 (rfText l5 b5 1048576).2.2 cs) := fun {cs} V H => (refTextR_any (b + 1) l5 b5 1048576 1048576 V (.inl rfl) H.f hl5 (by omega)).mono fun e w' ⟨h1, h2, h3⟩ => ⟨h1, H.num h3 h2⟩
  have hts : (rfText l5 b5 1048576).1.length ≤ 1048576 ∧ (rfText l5 b5 1048576).2.1.length ≤ l5.length := by
    have h1 := rfNum_len l5 b5 1048576
    unfold rfText
    split
    · exact ⟨by simp, by simp⟩
    · split
      · exact ⟨by simp, by simp⟩
      · refine ⟨?_, ?_⟩
        · simp only [List.length_take]; omega
        · simp only [List.length_drop]; omega
  have HRQ : Hid (∀ t l6 b6, rfText l5 b5 1048576 = (t, l6, b6) → RfQ 1099511627776 1099511627776 1099511627776 1099511627776 1099511627776 1048576 l false ⟨v1, v2, v3, v4, v5, str t⟩ l6 b6) := fun t l6 b6 h => ⟨l1, b1, l2, b2, l3, b3, l4, b4, l5, b5, e1, e2, e3, e4, e5, by rw [h]; simp [str_toList]⟩
  generalize ht : rfText l5 b5 1048576 = x at *
  obtain ⟨t, l6, b6⟩ := x
  simp only at CT hts
  obtain ⟨k6, d6, hq, hen⟩ := (HRQ.out t l6 b6 rfl).rd (.inl ⟨rfl, rfl, rfl⟩ : Rel (l, false) (l, false))
  have hg := hq.got (by omega) (by omega) (by omega) (by omega) (by omega) (by omega)
  rw [hen] at hg
  have hst : (str t).size ≤ 1048576 := by rw [str_size]; exact hts.1
  generalize str t = st at *
  have HG := Lib.hid hg
  clear HRQ ht e1 e2 e3 e4 e5 hq hg hen
  obtain ⟨W0, hW0⟩ : ∃ W0, W0 = ((w.alloc (.cells #[.int .i64 0, .int .i64 0, .int .i64 0, .int .i64 0, .int .i64 0, .string ⟨#[]⟩] 30)).alloc (.cells #[.string (str l), .bool false] 96)).alloc (.cells #[.int .i64 0, .int .i64 0, .int .i64 0, .int .i64 0, .int .i64 0, .string ⟨#[]⟩] 30) := ⟨_, rfl⟩
  have HG0 : Hid (GS w W0 b l false #[.int .i64 0, .int .i64 0, .int .i64 0, .int .i64 0, .int .i64 0, .string ⟨#[]⟩]) := by
    rw [hW0]
    refine ⟨Ext.trans (Ext.trans (Ext.alloc _ _) (Ext.alloc _ _)) (Ext.alloc _ _), hb, by rw [hb]; exact ((Blk.new _ _ _).alloc _).alloc _, ?_, Blk.new' _ _ _ _ (by rw [hb]; simp)⟩
    exact (Blk.new' _ _ _ _ (by rw [hb]; simp)).alloc _
  have HB := Lib.hid hb
  have HW0 := Lib.hid hW0
  have HL6 : Hid (l6.length ≤ 1000000000) := Nat.le_trans hts.2 hl5
  have hq1 : IntKind.i64.wrap (v1 : Int) = (v1 : Int) := IntWalk.i64_in _ (by omega)
  have hq2 : IntKind.i64.wrap (v2 : Int) = (v2 : Int) := IntWalk.i64_in _ (by omega)
  have hq3 : IntKind.i64.wrap (v3 : Int) = (v3 : Int) := IntWalk.i64_in _ (by omega)
  have hq4 : IntKind.i64.wrap (v4 : Int) = (v4 : Int) := IntWalk.i64_in _ (by omega)
  have hq5 : IntKind.i64.wrap (v5 : Int) = (v5 : Int) := IntWalk.i64_in _ (by omega)
  have HST := Lib.hid hst
  clear hb hW0 hl hl1 hl2 hl3 hl4 hl5 hv1 hv2 hv3 hv4 hv5 hts hst
  go_enter Try.func37, Try.ntmps37
  go_wp2_with (first
    | (go_at_call 59; rw [← HW0.out, ← HB.out]; (with_reducible refine (C1.out _ HG0.out).mono ?_); rintro e w1 ⟨rfl, h⟩; have f0 := h.q.frozen 0; have c0 := h.q.cell 0; simp at c0; have HG1 := Lib.hid (h.set0 (.int .i64 v1)); clear h C1)
    | (go_at_call 59; (with_reducible refine (C2.out _ HG1.out).mono ?_); rintro e w2 ⟨rfl, h⟩; have f1 := h.q.frozen 1; have c1 := h.q.cell 1; simp at c1; have HG2 := Lib.hid (h.set1 (.int .i64 v2)); clear h C2)
    | (go_at_call 59; (with_reducible refine (C3.out _ HG2.out).mono ?_); rintro e w3 ⟨rfl, h⟩; have f2 := h.q.frozen 2; have c2 := h.q.cell 2; simp at c2; have HG3 := Lib.hid (h.set2 (.int .i64 v3)); clear h C3)
    | (go_at_call 59; (with_reducible refine (C4.out _ HG3.out).mono ?_); rintro e w4 ⟨rfl, h⟩; have f3 := h.q.frozen 3; have c3 := h.q.cell 3; simp at c3; have HG4 := Lib.hid (h.set3 (.int .i64 v4)); clear h C4)
    | (go_at_call 59; (with_reducible refine (C5.out _ HG4.out).mono ?_); rintro e w5 ⟨rfl, h⟩; have f4 := h.q.frozen 4; have c4 := h.q.cell 4; simp at c4; have HG5 := Lib.hid (h.set4 (.int .i64 v5)); clear h C5)
    | done)
  go_at_call 60
  with_reducible refine (CT.out _ HG5.out).mono ?_
  rintro e w6 ⟨rfl, h⟩
  have f5 := h.q.frozen 5
  have c5 := h.q.cell 5
  simp at c5
  have h6 := h.set5 (.string st)
  have HG6 := Lib.hid h6
  obtain ⟨W7, hW7⟩ : ∃ W7, W7 = w6.setCell ⟨b + 2, 5, none⟩ (.string st) := ⟨_, rfl⟩
  rw [← hW7] at h6
  clear h
  have C8 := Lib.hid (refEnd_any (b + 1) l6 b6 W7 h6.f HL6.out)
  have C9 := Lib.hid (refMayReq_any v1 v2 v3 v4 v5 st W7 (by have := HST.out; unfold maxLen; omega))
  have hgr := h6.r
  have hgq := h6.q
  have o0 : W7.cell? ⟨b + 2, 0, none⟩ = some (.int .i64 v1) := hgq.cell 0
  have o1 : W7.cell? ⟨b + 2, 1, none⟩ = some (.int .i64 v2) := hgq.cell 1
  have o2 : W7.cell? ⟨b + 2, 2, none⟩ = some (.int .i64 v3) := hgq.cell 2
  have o3 : W7.cell? ⟨b + 2, 3, none⟩ = some (.int .i64 v4) := hgq.cell 3
  have o4 : W7.cell? ⟨b + 2, 4, none⟩ = some (.int .i64 v5) := hgq.cell 4
  have o5 : W7.cell? ⟨b + 2, 5, none⟩ = some (.string st) := hgq.cell 5
  have g0 := hgr.frozen 0
  have p0 : W7.cell? ⟨b, 0, none⟩ = some (.int .i64 0) := hgr.cell 0
  have g1 := hgr.frozen 1
  have p1 : W7.cell? ⟨b, 1, none⟩ = some (.int .i64 0) := hgr.cell 1
  have g2 := hgr.frozen 2
  have p2 : W7.cell? ⟨b, 2, none⟩ = some (.int .i64 0) := hgr.cell 2
  have g3 := hgr.frozen 3
  have p3 : W7.cell? ⟨b, 3, none⟩ = some (.int .i64 0) := hgr.cell 3
  have g4 := hgr.frozen 4
  have p4 : W7.cell? ⟨b, 4, none⟩ = some (.int .i64 0) := hgr.cell 4
  have g5 := hgr.frozen 5
  have p5 : W7.cell? ⟨b, 5, none⟩ = some (.string ⟨#[]⟩) := hgr.cell 5
  have HX7 : Hid (Ext w W7) := h6.x
  have HGR := Lib.hid hgr
  have HGQ := Lib.hid hgq
  have HW7 := Lib.hid hW7
  clear h6 hgr hgq hW7 CT
  generalize endN l6 b6 = en at *
  generalize hmr : mayReqB v1 v2 v3 v4 v5 st.size = mr at *
  have HMR : Hid (Rq.may ⟨v1, v2, v3, v4, v5, st⟩ = mr) := hmr
  clear hmr
  go_wp2_with fail
  rw [← HW7.out]
  by_cases h0 : en = 0
  case neg =>
    have HGO : Hid (GotQ l Rq.zero 2) := HG.out.2 (fun h => h0 h.1)
    have hne : ((en : Int) == 0) = false := by simp [h0]
    clear HG
    go_wp2_with (go_at_call 61; (with_reducible refine C8.out.mono ?_); rintro e w8 ⟨rfl, rfl⟩)
    obtain ⟨K9, hF9⟩ := six_set HGR.out (.int .i64 0) (.int .i64 0) (.int .i64 0) (.int .i64 0) (.int .i64 0) (.string ⟨#[]⟩)
    have hx9 := Frm.step HX7.out hF9 HX7.out.size (fun k hk => by rw [hk, HB.out]; exact Nat.le_refl _)
    clear o0 o1 o2 o3 o4 o5 g0 g1 g2 g3 g4 g5 p0 p1 p2 p3 p4 p5 hF9
    generalize ((((((W7.setCell ⟨b, 0, none⟩ (.int .i64 0)).setCell ⟨b, 1, none⟩ (.int .i64 0)).setCell ⟨b, 2, none⟩ (.int .i64 0)).setCell ⟨b, 3, none⟩ (.int .i64 0)).setCell ⟨b, 4, none⟩ (.int .i64 0)).setCell ⟨b, 5, none⟩ (.string ⟨#[]⟩)) = W9 at *
    have k0 : W9.cell? ⟨b, 0, none⟩ = some (.int .i64 0) := K9.cell 0
    have k1 : W9.cell? ⟨b, 1, none⟩ = some (.int .i64 0) := K9.cell 1
    have k2 : W9.cell? ⟨b, 2, none⟩ = some (.int .i64 0) := K9.cell 2
    have k3 : W9.cell? ⟨b, 3, none⟩ = some (.int .i64 0) := K9.cell 3
    have k4 : W9.cell? ⟨b, 4, none⟩ = some (.int .i64 0) := K9.cell 4
    have k5 : W9.cell? ⟨b, 5, none⟩ = some (.string ⟨#[]⟩) := K9.cell 5
    exact bodyPost_ret (v := .tuple #[.agg #[.int .i64 0, .int .i64 0, .int .i64 0, .int .i64 0, .int .i64 0, .string ⟨#[]⟩], .int .i64 2]) (by simp [results, Try.results37, go_sem, k0, k1, k2, k3, k4, k5]) rfl (hD.out _ _ ⟨Rq.zero, 2, HGO.out, rfl, hx9⟩)
  case pos =>
    subst h0
    cases mr
    case false =>
      have HGO : Hid (GotQ l Rq.zero 2) := HG.out.2 (fun h => by have := h.2; rw [HMR.out] at this; cases this)
      clear HG
      go_wp2_with (first
        | (go_at_call 61; (with_reducible refine C8.out.mono ?_); rintro e w8 ⟨rfl, rfl⟩)
        | (go_at_call 30; (with_reducible refine C9.out.mono ?_); rintro e w9 ⟨rfl, hx⟩; have HX9 : Hid (Ext w w9) := Ext.trans HX7.out hx; have kr5 := HGR.out.stay hx; have HKR9 := Lib.hid kr5; have r0 := kr5.frozen 0; have u0 : w9.cell? ⟨b, 0, none⟩ = some (.int .i64 0) := kr5.cell 0; have r1 := kr5.frozen 1; have u1 : w9.cell? ⟨b, 1, none⟩ = some (.int .i64 0) := kr5.cell 1; have r2 := kr5.frozen 2; have u2 : w9.cell? ⟨b, 2, none⟩ = some (.int .i64 0) := kr5.cell 2; have r3 := kr5.frozen 3; have u3 : w9.cell? ⟨b, 3, none⟩ = some (.int .i64 0) := kr5.cell 3; have r4 := kr5.frozen 4; have u4 : w9.cell? ⟨b, 4, none⟩ = some (.int .i64 0) := kr5.cell 4; have r5 := kr5.frozen 5; have u5 : w9.cell? ⟨b, 5, none⟩ = some (.string ⟨#[]⟩) := kr5.cell 5; clear hx kr5))
      obtain ⟨K9, hF9⟩ := six_set HKR9.out (.int .i64 0) (.int .i64 0) (.int .i64 0) (.int .i64 0) (.int .i64 0) (.string ⟨#[]⟩)
      have hx9 := Frm.step HX9.out hF9 HX9.out.size (fun k hk => by rw [hk, HB.out]; exact Nat.le_refl _)
      clear o0 o1 o2 o3 o4 o5 g0 g1 g2 g3 g4 g5 p0 p1 p2 p3 p4 p5 r0 r1 r2 r3 r4 r5 u0 u1 u2 u3 u4 u5 hF9
      generalize ((((((w9.setCell ⟨b, 0, none⟩ (.int .i64 0)).setCell ⟨b, 1, none⟩ (.int .i64 0)).setCell ⟨b, 2, none⟩ (.int .i64 0)).setCell ⟨b, 3, none⟩ (.int .i64 0)).setCell ⟨b, 4, none⟩ (.int .i64 0)).setCell ⟨b, 5, none⟩ (.string ⟨#[]⟩)) = W9 at *
      have k0 : W9.cell? ⟨b, 0, none⟩ = some (.int .i64 0) := K9.cell 0
      have k1 : W9.cell? ⟨b, 1, none⟩ = some (.int .i64 0) := K9.cell 1
      have k2 : W9.cell? ⟨b, 2, none⟩ = some (.int .i64 0) := K9.cell 2
      have k3 : W9.cell? ⟨b, 3, none⟩ = some (.int .i64 0) := K9.cell 3
      have k4 : W9.cell? ⟨b, 4, none⟩ = some (.int .i64 0) := K9.cell 4
      have k5 : W9.cell? ⟨b, 5, none⟩ = some (.string ⟨#[]⟩) := K9.cell 5
      exact bodyPost_ret (v := .tuple #[.agg #[.int .i64 0, .int .i64 0, .int .i64 0, .int .i64 0, .int .i64 0, .string ⟨#[]⟩], .int .i64 2]) (by simp [results, Try.results37, go_sem, k0, k1, k2, k3, k4, k5]) rfl (hD.out _ _ ⟨Rq.zero, 2, HGO.out, rfl, hx9⟩)
    case true =>
      have HGO : Hid (GotQ l ⟨v1, v2, v3, v4, v5, st⟩ 0) := HG.out.1 ⟨rfl, HMR.out⟩
      clear HG
      go_wp2_with (first
        | (go_at_call 61; (with_reducible refine C8.out.mono ?_); rintro e w8 ⟨rfl, rfl⟩)
        | (go_at_call 30; (with_reducible refine C9.out.mono ?_); rintro e w9 ⟨rfl, hx⟩; have HX9 : Hid (Ext w w9) := Ext.trans HX7.out hx; have kr5 := HGR.out.stay hx; have kz5 := HGQ.out.stay hx; have HKR9 := Lib.hid kr5; have r0 := kr5.frozen 0; have u0 : w9.cell? ⟨b, 0, none⟩ = some (.int .i64 0) := kr5.cell 0; have r1 := kr5.frozen 1; have u1 : w9.cell? ⟨b, 1, none⟩ = some (.int .i64 0) := kr5.cell 1; have r2 := kr5.frozen 2; have u2 : w9.cell? ⟨b, 2, none⟩ = some (.int .i64 0) := kr5.cell 2; have r3 := kr5.frozen 3; have u3 : w9.cell? ⟨b, 3, none⟩ = some (.int .i64 0) := kr5.cell 3; have r4 := kr5.frozen 4; have u4 : w9.cell? ⟨b, 4, none⟩ = some (.int .i64 0) := kr5.cell 4; have r5 := kr5.frozen 5; have u5 : w9.cell? ⟨b, 5, none⟩ = some (.string ⟨#[]⟩) := kr5.cell 5; have t0 : w9.cell? ⟨b + 2, 0, none⟩ = some (.int .i64 v1) := kz5.cell 0; have t1 : w9.cell? ⟨b + 2, 1, none⟩ = some (.int .i64 v2) := kz5.cell 1; have t2 : w9.cell? ⟨b + 2, 2, none⟩ = some (.int .i64 v3) := kz5.cell 2; have t3 : w9.cell? ⟨b + 2, 3, none⟩ = some (.int .i64 v4) := kz5.cell 3; have t4 : w9.cell? ⟨b + 2, 4, none⟩ = some (.int .i64 v5) := kz5.cell 4; have t5 : w9.cell? ⟨b + 2, 5, none⟩ = some (.string st) := kz5.cell 5; clear hx kr5 kz5))
      obtain ⟨K9, hF9⟩ := six_set HKR9.out (.int .i64 v1) (.int .i64 v2) (.int .i64 v3) (.int .i64 v4) (.int .i64 v5) (.string st)
      have hx9 := Frm.step HX9.out hF9 HX9.out.size (fun k hk => by rw [hk, HB.out]; exact Nat.le_refl _)
      clear o0 o1 o2 o3 o4 o5 g0 g1 g2 g3 g4 g5 p0 p1 p2 p3 p4 p5 t0 t1 t2 t3 t4 t5 r0 r1 r2 r3 r4 r5 u0 u1 u2 u3 u4 u5 hF9
      generalize ((((((w9.setCell ⟨b, 0, none⟩ (.int .i64 v1)).setCell ⟨b, 1, none⟩ (.int .i64 v2)).setCell ⟨b, 2, none⟩ (.int .i64 v3)).setCell ⟨b, 3, none⟩ (.int .i64 v4)).setCell ⟨b, 4, none⟩ (.int .i64 v5)).setCell ⟨b, 5, none⟩ (.string st)) = W9 at *
      have k0 : W9.cell? ⟨b, 0, none⟩ = some (.int .i64 v1) := K9.cell 0
      have k1 : W9.cell? ⟨b, 1, none⟩ = some (.int .i64 v2) := K9.cell 1
      have k2 : W9.cell? ⟨b, 2, none⟩ = some (.int .i64 v3) := K9.cell 2
      have k3 : W9.cell? ⟨b, 3, none⟩ = some (.int .i64 v4) := K9.cell 3
      have k4 : W9.cell? ⟨b, 4, none⟩ = some (.int .i64 v5) := K9.cell 4
      have k5 : W9.cell? ⟨b, 5, none⟩ = some (.string st) := K9.cell 5
      exact bodyPost_ret (v := .tuple #[.agg #[.int .i64 v1, .int .i64 v2, .int .i64 v3, .int .i64 v4, .int .i64 v5, .string st], .int .i64 0]) (by simp [results, Try.results37, go_sem, k0, k1, k2, k3, k4, k5]) rfl (hD.out _ _ ⟨⟨v1, v2, v3, v4, v5, st⟩, 0, HGO.out, rfl, hx9⟩)
end Go.Proofs.Ytdbnaflaobncgaa
