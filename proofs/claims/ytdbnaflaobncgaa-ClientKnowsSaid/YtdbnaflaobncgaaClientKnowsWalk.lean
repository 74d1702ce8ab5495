/-
  The walk of the law ClientKnows.
-/
import Derived.Test.YtdbnaflaobncgaaTold21
import Derived.Test.YtdbnaflaobncgaaRefMayCh
import Derived.Test.YtdbnaflaobncgaaOpen
namespace Go.Proofs.Ytdbnaflaobncgaa
set_option linter.unusedVariables false
set_option linter.unusedSimpArgs false
open Go.RowKit Go.ChangeShapes Go.WideShapes

theorem may_len' {ep : Int} {l : List Int} (h : mayChainB ep l = true) : l.length ≤ 5 := by
  unfold mayChainB at h
  rw [Bool.and_eq_true, Bool.and_eq_true] at h
  have := of_decide_eq_true h.1.2
  omega
theorem may_ep {ep : Int} {l : List Int} (h : mayChainB ep l = true) : 0 ≤ ep := by
  unfold mayChainB at h
  rw [Bool.and_eq_true, Bool.and_eq_true] at h
  have := of_decide_eq_true h.1.1
  omega
theorem may_pos {ep : Int} {l : List Int} (h : mayChainB ep l = true) : 0 < l.length := by
  unfold mayChainB at h
  rw [Bool.and_eq_true, Bool.and_eq_true] at h
  have := of_decide_eq_true h.1.2
  omega
theorem ClAt.mono {base base' P : Nat} {w : World} {s : Cs} (h : ClAt base' w P s) (hb : base ≤ base') : ClAt base w P s := by
  obtain ⟨h1, A, cap, pv, h2, h3, h4⟩ := h
  refine ⟨Nat.le_trans hb h1, A, cap, pv, h2, h3, ?_⟩
  cases hp : s.p with
  | none => rw [hp] at h4; exact h4
  | some q => rw [hp] at h4; obtain ⟨pp, g1, g2, g3⟩ := h4; exact ⟨pp, Nat.le_trans hb g1, g2, g3⟩
theorem target_may {ep : Int} {l : List Int} (h : mayChainB ep l = true) : targetF l 5 2 (decide ((1 : Int) = 1 ∨ (1 : Int) = 2 ∨ (1 : Int) = 3)) = l.getD 0 0 := by
  have hp := may_pos h
  have hb : l.any (badB 5) = false := by
    rw [List.any_eq_false]
    intro x hx
    have h' := h
    unfold mayChainB at h'
    rw [Bool.and_eq_true, Bool.and_eq_true] at h'
    have := okNodes_mem l [] h'.2 x hx
    unfold badB
    simp
    omega
  unfold targetF
  rw [if_neg (by decide), if_neg (by rw [hb]; intro h; rcases h with h | h | h | h; omega; omega; subst h; simp at hp; cases h)]
  rfl

set_option maxRecDepth 8000 in
set_option maxHeartbeats 8000000 in
theorem knows_no (ep1 : Int) (A1 : Option Addr) (cap1 n1 : Nat) (l1 : List Int) (ep2 : Int) (A2 : Option Addr) (cap2 n2 : Nat) (l2 : List Int) (late : Bool) (w : World) (hn1 : n1 = l1.length) (hn2 : n2 = l2.length) (hs1 : Sl i64 w A1 l1) (hs2 : Sl i64 w A2 l2) (hl1 : l1.length ≤ 9223372036854775807) (hl2 : l2.length ≤ 9223372036854775807) (m1 m2 : Bool) (hm1 : mayChainB ep1 l1 = m1) (hm2 : mayChainB ep2 l2 = m2) (h : 8 < n1 ∨ 8 < n2 ∨ m1 = false ∨ m2 = false) :
    Calls Try.prog 4 #[.agg #[.int .i64 ep1, .slice A1 n1 cap1], .agg #[.int .i64 ep2, .slice A2 n2 cap2], .bool late] w fun e w' => e = .returned (.bool true) ∧ Below w.heap.size w w' := by
  refine hide_post fun D hD => ?_
  obtain ⟨W0, hW0⟩ : ∃ W0, W0 = ((w.alloc (.cells #[.int .i64 ep1, .slice A1 n1 cap1] 39)).alloc (.cells #[.int .i64 ep2, .slice A2 n2 cap2] 39)) := ⟨_, rfl⟩
  have hx0 : Ext w W0 := by rw [hW0]; exact Ext.trans (Ext.alloc _ _) (Ext.alloc _ _)
  have ka : Blk W0 w.heap.size 39 #[.int .i64 ep1, .slice A1 n1 cap1] := by rw [hW0]; exact (Blk.new _ _ _).alloc _
  have kb : Blk W0 (w.heap.size + 1) 39 #[.int .i64 ep2, .slice A2 n2 cap2] := by rw [hW0]; exact Blk.new' _ _ _ _ (by simp)
  have fz00 : ∀ V, Kt w.heap.size W0 V → V.cell? ⟨w.heap.size, 0, none⟩ = some (.int .i64 ep1) := fun V h => (h.2 _ _ _ (by decide) (by decide) ka).cell 0
  have fz01 : ∀ V, Kt w.heap.size W0 V → V.cell? ⟨w.heap.size, 1, none⟩ = some (.slice A1 n1 cap1) := fun V h => (h.2 _ _ _ (by decide) (by decide) ka).cell 1
  have fz10 : ∀ V, Kt w.heap.size W0 V → V.cell? ⟨(w.heap.size + 1), 0, none⟩ = some (.int .i64 ep2) := fun V h => (h.2 _ _ _ (by decide) (by decide) kb).cell 0
  have fz11 : ∀ V, Kt w.heap.size W0 V → V.cell? ⟨(w.heap.size + 1), 1, none⟩ = some (.slice A2 n2 cap2) := fun V h => (h.2 _ _ _ (by decide) (by decide) kb).cell 1
  have HW0 := Lib.hid hW0
  have HX0 := Lib.hid hx0
  have K0 : Hid (Kt w.heap.size W0 W0) := Kt.refl _ _
  have HKE : Hid (∀ V V', Kt w.heap.size W0 V → Ext V V' → Kt w.heap.size W0 V') := fun V V' h h' => h.trans (Kt.ext h' (Nat.le_trans hx0.size h.1.size))
  have HT : Hid (∀ V, Calls Try.prog 18 #[] V fun e w' => e = .returned (.bool true) ∧ Ext V w') := told21
  have CA : Hid (∀ V, Kt w.heap.size W0 V → Calls Try.prog 19 #[.agg #[.int .i64 ep1, .slice A1 n1 cap1]] V fun e w' => e = .returned (.bool m1) ∧ Ext V w') := fun V hV => by rw [← hm1, hn1]; exact refMayChain_any ep1 A1 cap1 l1 V hl1 (hs1.stay (Below.trans hx0 hV.1))
  have CB : Hid (∀ V, Kt w.heap.size W0 V → Calls Try.prog 19 #[.agg #[.int .i64 ep2, .slice A2 n2 cap2]] V fun e w' => e = .returned (.bool m2) ∧ Ext V w') := fun V hV => by rw [← hm2, hn2]; exact refMayChain_any ep2 A2 cap2 l2 V hl2 (hs2.stay (Below.trans hx0 hV.1))
  clear ka kb hW0 hx0 hs1 hs2 hl1 hl2 hm1 hm2 hn1 hn2
  have h' : (8 : Int) < (n1 : Int) ∨ (¬ (8 : Int) < (n1 : Int) ∧ ((8 : Int) < (n2 : Int) ∨ (¬ (8 : Int) < (n2 : Int) ∧ (m1 = false ∨ (m1 = true ∧ m2 = false))))) := by
    cases m1 <;> cases m2 <;> simp at h <;> simp <;> omega
  clear h
  rcases h' with h1 | ⟨h1, h2 | ⟨h2, rfl | ⟨rfl, rfl⟩⟩⟩
  · go_enter Try.func4, Try.ntmps4
    go_wp2_with fail
    rw [← HW0.out]
    have W0z00 := fz00 _ K0.out; have W0z01 := fz01 _ K0.out; have W0z10 := fz10 _ K0.out; have W0z11 := fz11 _ K0.out
    go_wp2_with (first
      | (go_at_call 19; (with_reducible refine (CA.out _ K0.out).mono ?_); rintro e w1 ⟨rfl, hx⟩; have Kw1 : Hid (Kt w.heap.size W0 w1) := HKE.out _ _ K0.out hx; have w1z00 := fz00 _ Kw1.out; have w1z01 := fz01 _ Kw1.out; have w1z10 := fz10 _ Kw1.out; have w1z11 := fz11 _ Kw1.out; clear hx)
      | (go_at_call 19; (with_reducible refine (CB.out _ Kw1.out).mono ?_); rintro e w2 ⟨rfl, hx⟩; have Kw2 : Hid (Kt w.heap.size W0 w2) := HKE.out _ _ Kw1.out hx; have w2z00 := fz00 _ Kw2.out; have w2z01 := fz01 _ Kw2.out; have w2z10 := fz10 _ Kw2.out; have w2z11 := fz11 _ Kw2.out; clear hx)
      | (go_at_call 18; (with_reducible refine (HT.out _).mono ?_); rintro e w3 ⟨rfl, hx⟩; have Kw3 : Hid (Kt w.heap.size W0 w3) := HKE.out _ _ K0.out hx; clear hx))
    try go_ret
    exact hD.out _ _ ⟨rfl, Below.trans HX0.out Kw3.out.1⟩
  · go_enter Try.func4, Try.ntmps4
    go_wp2_with fail
    rw [← HW0.out]
    have W0z00 := fz00 _ K0.out; have W0z01 := fz01 _ K0.out; have W0z10 := fz10 _ K0.out; have W0z11 := fz11 _ K0.out
    go_wp2_with (first
      | (go_at_call 19; (with_reducible refine (CA.out _ K0.out).mono ?_); rintro e w1 ⟨rfl, hx⟩; have Kw1 : Hid (Kt w.heap.size W0 w1) := HKE.out _ _ K0.out hx; have w1z00 := fz00 _ Kw1.out; have w1z01 := fz01 _ Kw1.out; have w1z10 := fz10 _ Kw1.out; have w1z11 := fz11 _ Kw1.out; clear hx)
      | (go_at_call 19; (with_reducible refine (CB.out _ Kw1.out).mono ?_); rintro e w2 ⟨rfl, hx⟩; have Kw2 : Hid (Kt w.heap.size W0 w2) := HKE.out _ _ Kw1.out hx; have w2z00 := fz00 _ Kw2.out; have w2z01 := fz01 _ Kw2.out; have w2z10 := fz10 _ Kw2.out; have w2z11 := fz11 _ Kw2.out; clear hx)
      | (go_at_call 18; (with_reducible refine (HT.out _).mono ?_); rintro e w3 ⟨rfl, hx⟩; have Kw3 : Hid (Kt w.heap.size W0 w3) := HKE.out _ _ K0.out hx; clear hx))
    try go_ret
    exact hD.out _ _ ⟨rfl, Below.trans HX0.out Kw3.out.1⟩
  · go_enter Try.func4, Try.ntmps4
    go_wp2_with fail
    rw [← HW0.out]
    have W0z00 := fz00 _ K0.out; have W0z01 := fz01 _ K0.out; have W0z10 := fz10 _ K0.out; have W0z11 := fz11 _ K0.out
    go_wp2_with (first
      | (go_at_call 19; (with_reducible refine (CA.out _ K0.out).mono ?_); rintro e w1 ⟨rfl, hx⟩; have Kw1 : Hid (Kt w.heap.size W0 w1) := HKE.out _ _ K0.out hx; have w1z00 := fz00 _ Kw1.out; have w1z01 := fz01 _ Kw1.out; have w1z10 := fz10 _ Kw1.out; have w1z11 := fz11 _ Kw1.out; clear hx)
      | (go_at_call 19; (with_reducible refine (CB.out _ Kw1.out).mono ?_); rintro e w2 ⟨rfl, hx⟩; have Kw2 : Hid (Kt w.heap.size W0 w2) := HKE.out _ _ Kw1.out hx; have w2z00 := fz00 _ Kw2.out; have w2z01 := fz01 _ Kw2.out; have w2z10 := fz10 _ Kw2.out; have w2z11 := fz11 _ Kw2.out; clear hx)
      | (go_at_call 18; (with_reducible refine (HT.out _).mono ?_); rintro e w3 ⟨rfl, hx⟩; have Kw3 : Hid (Kt w.heap.size W0 w3) := HKE.out _ _ Kw1.out hx; clear hx))
    try go_ret
    exact hD.out _ _ ⟨rfl, Below.trans HX0.out Kw3.out.1⟩
  · go_enter Try.func4, Try.ntmps4
    go_wp2_with fail
    rw [← HW0.out]
    have W0z00 := fz00 _ K0.out; have W0z01 := fz01 _ K0.out; have W0z10 := fz10 _ K0.out; have W0z11 := fz11 _ K0.out
    go_wp2_with (first
      | (go_at_call 19; (with_reducible refine (CA.out _ K0.out).mono ?_); rintro e w1 ⟨rfl, hx⟩; have Kw1 : Hid (Kt w.heap.size W0 w1) := HKE.out _ _ K0.out hx; have w1z00 := fz00 _ Kw1.out; have w1z01 := fz01 _ Kw1.out; have w1z10 := fz10 _ Kw1.out; have w1z11 := fz11 _ Kw1.out; clear hx)
      | (go_at_call 19; (with_reducible refine (CB.out _ Kw1.out).mono ?_); rintro e w2 ⟨rfl, hx⟩; have Kw2 : Hid (Kt w.heap.size W0 w2) := HKE.out _ _ Kw1.out hx; have w2z00 := fz00 _ Kw2.out; have w2z01 := fz01 _ Kw2.out; have w2z10 := fz10 _ Kw2.out; have w2z11 := fz11 _ Kw2.out; clear hx)
      | (go_at_call 18; (with_reducible refine (HT.out _).mono ?_); rintro e w3 ⟨rfl, hx⟩; have Kw3 : Hid (Kt w.heap.size W0 w3) := HKE.out _ _ Kw2.out hx; clear hx))
    try go_ret
    exact hD.out _ _ ⟨rfl, Below.trans HX0.out Kw3.out.1⟩

set_option maxRecDepth 8000 in
set_option maxHeartbeats 16000000 in
theorem knows_L (ep1 : Int) (A1 : Option Addr) (cap1 n1 : Nat) (l1 : List Int) (ep2 : Int) (A2 : Option Addr) (cap2 n2 : Nat) (l2 : List Int) (late : Bool) (w : World) (hn1 : n1 = l1.length) (hn2 : n2 = l2.length) (hs1 : Sl i64 w A1 l1) (hs2 : Sl i64 w A2 l2) (hl1 : l1.length ≤ 9223372036854775807) (hl2 : l2.length ≤ 9223372036854775807) (hc1 : l1.length ≤ cap1) (hc2 : l2.length ≤ cap2) (hm1 : mayChainB ep1 l1 = true) (hm2 : mayChainB ep2 l2 = true) (hlt : late = true) :
    Calls Try.prog 4 #[.agg #[.int .i64 ep1, .slice A1 n1 cap1], .agg #[.int .i64 ep2, .slice A2 n2 cap2], .bool late] w fun e w' => e = .returned (.bool true) ∧ Below w.heap.size w w' := by
  have h51 := may_len' hm1
  obtain ⟨x0, hx00⟩ : ∃ x0, x0 = l1.getD 0 0 := ⟨_, rfl⟩
  have h52 := may_len' hm2
  refine hide_post fun D hD => ?_
  obtain ⟨W0, hW0⟩ : ∃ W0, W0 = ((w.alloc (.cells #[.int .i64 ep1, .slice A1 n1 cap1] 39)).alloc (.cells #[.int .i64 ep2, .slice A2 n2 cap2] 39)) := ⟨_, rfl⟩
  have hx0 : Ext w W0 := by rw [hW0]; exact Ext.trans (Ext.alloc _ _) (Ext.alloc _ _)
  have ka : Blk W0 w.heap.size 39 #[.int .i64 ep1, .slice A1 n1 cap1] := by rw [hW0]; exact (Blk.new _ _ _).alloc _
  have kb : Blk W0 (w.heap.size + 1) 39 #[.int .i64 ep2, .slice A2 n2 cap2] := by rw [hW0]; exact Blk.new' _ _ _ _ (by simp)
  have fz00 : ∀ V, Kt w.heap.size W0 V → V.cell? ⟨w.heap.size, 0, none⟩ = some (.int .i64 ep1) := fun V h => (h.2 _ _ _ (by decide) (by decide) ka).cell 0
  have fz01 : ∀ V, Kt w.heap.size W0 V → V.cell? ⟨w.heap.size, 1, none⟩ = some (.slice A1 n1 cap1) := fun V h => (h.2 _ _ _ (by decide) (by decide) ka).cell 1
  have fz10 : ∀ V, Kt w.heap.size W0 V → V.cell? ⟨(w.heap.size + 1), 0, none⟩ = some (.int .i64 ep2) := fun V h => (h.2 _ _ _ (by decide) (by decide) kb).cell 0
  have fz11 : ∀ V, Kt w.heap.size W0 V → V.cell? ⟨(w.heap.size + 1), 1, none⟩ = some (.slice A2 n2 cap2) := fun V h => (h.2 _ _ _ (by decide) (by decide) kb).cell 1
  have HW0 := Lib.hid hW0
  have HX0 := Lib.hid hx0
  have K0 : Hid (Kt w.heap.size W0 W0) := Kt.refl _ _
  have HKE : Hid (∀ V V', Kt w.heap.size W0 V → Ext V V' → Kt w.heap.size W0 V') := fun V V' h h' => h.trans (Kt.ext h' (Nat.le_trans hx0.size h.1.size))
  have HT : Hid (∀ V, Calls Try.prog 18 #[] V fun e w' => e = .returned (.bool true) ∧ Ext V w') := told21
  have CA : Hid (∀ V, Kt w.heap.size W0 V → Calls Try.prog 19 #[.agg #[.int .i64 ep1, .slice A1 n1 cap1]] V fun e w' => e = .returned (.bool true) ∧ Ext V w') := fun V hV => by rw [← hm1, hn1]; exact refMayChain_any ep1 A1 cap1 l1 V hl1 (hs1.stay (Below.trans hx0 hV.1))
  have CB : Hid (∀ V, Kt w.heap.size W0 V → Calls Try.prog 19 #[.agg #[.int .i64 ep2, .slice A2 n2 cap2]] V fun e w' => e = .returned (.bool true) ∧ Ext V w') := fun V hV => by rw [← hm2, hn2]; exact refMayChain_any ep2 A2 cap2 l2 V hl2 (hs2.stay (Below.trans hx0 hV.1))
  have CN : Hid (∀ V, Kt w.heap.size W0 V → Calls Try.prog 13 #[.int .i64 2, .int .i64 5] V fun e w' => ∃ P, e = .returned (.tuple #[.pointer (some ⟨P, 0, none⟩), .int .i64 0]) ∧ ClAt w.heap.size w' P ⟨2, 5, 0, 0, [], none⟩ ∧ Ext V w') := fun V hV => (new_yes 2 5 V (by decide) (by decide) (by decide) (by decide)).mono fun e w' ⟨h1, h2, h3⟩ => ⟨_, h1, h2.mono (Nat.le_trans hx0.size hV.1.size), h3⟩
  have CQ : Hid (∀ V P, ClAt w.heap.size V P ⟨2, 5, 0, 0, [], none⟩ → Calls Try.prog 14 #[.pointer (some ⟨P, 0, none⟩), .int .i64 0, .agg #[.int .i64 0, .int .i64 0, .int .i64 1, .int .i64 1, .int .i64 0, .string ⟨#[120]⟩]] V fun e w' => ∃ a, e = .returned (.tuple #[.int .i64 a, .int .i64 0]) ∧ ClAt w.heap.size w' P ⟨2, 5, 1, 0, [], some ⟨2, 1, 1, 1, 0, ⟨#[120]⟩, 0, 1⟩⟩ ∧ Kt w.heap.size V w') := fun V P H => by
    refine (ask_any w.heap.size P 2 5 0 0 [] none 0 0 0 1 1 0 ⟨#[120]⟩ V H (by decide) (by decide) (by decide) (by decide)).mono ?_
    rintro e w' ⟨a, f, rfl, hk, h | h⟩
    · have hm : mayReqB 2 (0 + 1) 1 1 0 (ByteArray.size ⟨#[120]⟩) = true := by decide
      rcases h.1 with ⟨h1, _⟩ | ⟨_, _, _, h1, _⟩
      · rw [hm] at h1
        simp at h1
      · exact absurd rfl h1
    · obtain ⟨_, _, _, _, rfl, rfl, h7⟩ := h
      exact ⟨_, rfl, h7, hk⟩
  have CTA : Hid (∀ V P, Kt w.heap.size W0 V → ClAt w.heap.size V P ⟨2, 5, 1, 0, [], some ⟨2, 1, 1, 1, 0, ⟨#[120]⟩, 0, 1⟩⟩ → Calls Try.prog 20 #[.pointer (some ⟨P, 0, none⟩), .int .i64 1, .agg #[.int .i64 ep1, .slice A1 n1 cap1]] V fun e w' => e = .returned (.tuple #[]) ∧ ClAt w.heap.size w' P ⟨2, 5, 1, ep1, l1, some ⟨2, 1, 1, 1, 0, ⟨#[120]⟩, 0, 1⟩⟩ ∧ Kt w.heap.size V w') := fun V P hV H => by rw [hn1]; exact told_y w.heap.size P 2 5 1 0 [] 2 1 1 1 0 ⟨#[120]⟩ 0 1 1 ep1 A1 cap1 l1 V H (by omega) hc1 (hs1.stay (Below.trans hx0 hV.1)) rfl hm1 (may_ep hm1)
  have CTB : Hid (∀ V P, Kt w.heap.size W0 V → ClAt w.heap.size V P ⟨2, 5, 1, ep1, l1, some ⟨2, 1, 1, 1, 0, ⟨#[120]⟩, 0, 1⟩⟩ → Calls Try.prog 20 #[.pointer (some ⟨P, 0, none⟩), .int .i64 2, .agg #[.int .i64 ep2, .slice A2 n2 cap2]] V fun e w' => e = .returned (.tuple #[]) ∧ Ext V w') := fun V P hV H => by rw [hn2]; exact told_o w.heap.size P 2 5 1 ep1 l1 2 1 1 1 0 ⟨#[120]⟩ 0 1 2 ep2 A2 cap2 l2 V H (by omega) hc2 (hs2.stay (Below.trans hx0 hV.1)) (by decide)
  have CK : Hid (∀ V P, ClAt w.heap.size V P ⟨2, 5, 1, ep1, l1, some ⟨2, 1, 1, 1, 0, ⟨#[120]⟩, 0, 1⟩⟩ → Calls Try.prog 15 #[.pointer (some ⟨P, 0, none⟩), .int .i64 8] V fun e w' => e = .returned (.tuple #[.int .i64 x0, .bool true]) ∧ ClAt w.heap.size w' P ⟨2, 5, 1, ep1, l1, some ⟨2, 1, 1, 1, 0, ⟨#[120]⟩, 8, 2⟩⟩ ∧ Kt w.heap.size V w') := fun V P H => by
    have h := tick_y w.heap.size P 2 5 1 ep1 l1 2 1 1 1 0 ⟨#[120]⟩ 0 1 8 2 V H (by decide) (by omega) (by decide) (by decide) (by decide) (by decide) (by decide) (by decide)
    rw [show targetF l1 5 2 (decide ((1 : Int) = 1 ∨ (1 : Int) = 2 ∨ (1 : Int) = 3)) = x0 by rw [hx00]; exact target_may hm1] at h
    exact h
  have CR : Hid (∀ V P, ClAt w.heap.size V P ⟨2, 5, 1, ep1, l1, some ⟨2, 1, 1, 1, 0, ⟨#[120]⟩, 8, 2⟩⟩ → Calls Try.prog 17 #[.pointer (some ⟨P, 0, none⟩)] V fun e w' => e = .returned (.int .i64 2) ∧ Ext V w') := fun V P H => tries_s w.heap.size P 2 5 1 ep1 l1 2 1 1 1 0 ⟨#[120]⟩ 8 2 V H
  have b1 : ¬ (8 : Int) < (n1 : Int) := by omega
  have b2 : ¬ (8 : Int) < (n2 : Int) := by omega
  obtain ⟨gb, go, rfl, hq⟩ := hs1.at_ (k := 0) (may_pos hm1)
  have HQ : Hid (∀ V, Kt w.heap.size W0 V → V.cell? ⟨gb, go, none⟩ = some (.int .i64 x0)) := fun V hV => by
    rw [hx00, ← List.getElem_eq_getD (h := may_pos hm1)]
    exact cell_stay (Below.trans hx0 hV.1) hq
  have hnp : (0 : Int) < (n1 : Int) := by have := may_pos hm1; omega
  clear ka kb hW0 hx0 hs1 hs2 hl1 hl2 hm1 hm2 hn1 hn2 hc1 hc2 h51 h52 hq hx00
  subst hlt
  go_enter Try.func4, Try.ntmps4
  go_wp2_with fail
  rw [← HW0.out]
  have W0z00 := fz00 _ K0.out; have W0z01 := fz01 _ K0.out; have W0z10 := fz10 _ K0.out; have W0z11 := fz11 _ K0.out
  have UB : Hid (∀ wv, Kt w.heap.size W0 wv → True) := fun _ _ => trivial
  go_wp2_with (first
    | (go_at_call 19; (with_reducible refine (CA.out _ K0.out).mono ?_); rintro e w1 ⟨rfl, hx⟩; have Kw1 : Hid (Kt w.heap.size W0 w1) := HKE.out _ _ K0.out hx; have w1z00 := fz00 _ Kw1.out; have w1z01 := fz01 _ Kw1.out; have w1z10 := fz10 _ Kw1.out; have w1z11 := fz11 _ Kw1.out; clear hx)
    | (go_at_call 19; (with_reducible refine (CB.out _ Kw1.out).mono ?_); rintro e w2 ⟨rfl, hx⟩; have Kw2 : Hid (Kt w.heap.size W0 w2) := HKE.out _ _ Kw1.out hx; have w2z00 := fz00 _ Kw2.out; have w2z01 := fz01 _ Kw2.out; have w2z10 := fz10 _ Kw2.out; have w2z11 := fz11 _ Kw2.out; clear hx)
    | (go_at_call 13; (with_reducible refine (CN.out _ Kw2.out).mono ?_); rintro e w3 ⟨P, rfl, hc, hx⟩; have Kw3 : Hid (Kt w.heap.size W0 w3) := HKE.out _ _ Kw2.out hx; have w3z00 := fz00 _ Kw3.out; have w3z01 := fz01 _ Kw3.out; have w3z10 := fz10 _ Kw3.out; have w3z11 := fz11 _ Kw3.out; have HC3 := Lib.hid hc; clear hc; clear hx)
    | (go_at_call 14; (with_reducible refine (CQ.out _ _ HC3.out).mono ?_); rintro e w4 ⟨a, rfl, hc, hk⟩; have Kw4 : Hid (Kt w.heap.size W0 w4) := Kw3.out.trans hk; have w4z00 := fz00 _ Kw4.out; have w4z01 := fz01 _ Kw4.out; have w4z10 := fz10 _ Kw4.out; have w4z11 := fz11 _ Kw4.out; have HC4 := Lib.hid hc; clear hc; clear hk)
    | (go_at_call 20; (with_reducible refine (CTA.out _ _ Kw4.out HC4.out).mono ?_); rintro e w5 ⟨rfl, hc, hk⟩; have Kw5 : Hid (Kt w.heap.size W0 w5) := Kw4.out.trans hk; have w5z00 := fz00 _ Kw5.out; have w5z01 := fz01 _ Kw5.out; have w5z10 := fz10 _ Kw5.out; have w5z11 := fz11 _ Kw5.out; have HC5 := Lib.hid hc; clear hc; clear hk)
    | (go_at_call 20; (with_reducible refine (CTB.out _ _ Kw5.out HC5.out).mono ?_); rintro e wv ⟨rfl, hx⟩; have Kwv : Hid (Kt w.heap.size W0 wv) := HKE.out _ _ Kw5.out hx; have wvz00 := fz00 _ Kwv.out; have wvz01 := fz01 _ Kwv.out; have wvz10 := fz10 _ Kwv.out; have wvz11 := fz11 _ Kwv.out; have ub00 : ∀ o, (wv.alloc o).cell? ⟨w.heap.size, 0, none⟩ = some (.int .i64 ep1) := fun o => fz00 _ (HKE.out _ _ Kwv.out (Ext.alloc _ _)); have ub01 : ∀ o, (wv.alloc o).cell? ⟨w.heap.size, 1, none⟩ = some (.slice (some ⟨gb, go, none⟩) n1 cap1) := fun o => fz01 _ (HKE.out _ _ Kwv.out (Ext.alloc _ _)); have ub10 : ∀ o, (wv.alloc o).cell? ⟨(w.heap.size + 1), 0, none⟩ = some (.int .i64 ep2) := fun o => fz10 _ (HKE.out _ _ Kwv.out (Ext.alloc _ _)); have ub11 : ∀ o, (wv.alloc o).cell? ⟨(w.heap.size + 1), 1, none⟩ = some (.slice A2 n2 cap2) := fun o => fz11 _ (HKE.out _ _ Kwv.out (Ext.alloc _ _)); have HC6 := Lib.hid (HC5.out.stay hx); clear hx)
    | (go_at_call 15; (with_reducible refine (CK.out (wv.alloc (.cells #[.int .i64 ep1, .slice (some ⟨gb, go, none⟩) n1 cap1] 39)) P (HC6.out.stay (Ext.alloc _ _))).mono ?_); rintro e w8 ⟨rfl, hc, hk⟩; have HC8 := Lib.hid hc; have K8 : Hid (Kt w.heap.size W0 w8) := (HKE.out _ _ Kwv.out (Ext.alloc _ _)).trans hk; have HW8 : Hid (Blk w8 wv.heap.size 39 #[.int .i64 ep1, .slice (some ⟨gb, go, none⟩) n1 cap1]) := hk.2 _ _ _ (by decide) (by decide) (Blk.new wv 39 #[.int .i64 ep1, .slice (some ⟨gb, go, none⟩) n1 cap1]); clear hc hk)
    | (go_at_call 18; (with_reducible refine (HT.out _).mono ?_); rintro e w9 ⟨rfl, hx⟩; have K9 : Hid (Kt w.heap.size W0 w9) := HKE.out _ _ K8.out hx; have HC9 := Lib.hid (HC8.out.stay hx); have kw := HW8.out.stay hx; have y0 := kw.cell 0; have y1 := kw.cell 1; have hq9 := HQ.out _ K9.out; simp at y0 y1; clear hx kw)
    | (go_at_call 17; (with_reducible refine (CR.out _ _ HC9.out).mono ?_); rintro e w10 ⟨rfl, hx⟩; have K10 : Hid (Kt w.heap.size W0 w10) := HKE.out _ _ K9.out hx; clear hx))
  try go_ret
  exact hD.out _ _ ⟨rfl, Below.trans HX0.out K10.out.1⟩

set_option maxRecDepth 8000 in
set_option maxHeartbeats 16000000 in
theorem knows_E (ep1 : Int) (A1 : Option Addr) (cap1 n1 : Nat) (l1 : List Int) (ep2 : Int) (A2 : Option Addr) (cap2 n2 : Nat) (l2 : List Int) (late : Bool) (w : World) (hn1 : n1 = l1.length) (hn2 : n2 = l2.length) (hs1 : Sl i64 w A1 l1) (hs2 : Sl i64 w A2 l2) (hl1 : l1.length ≤ 9223372036854775807) (hl2 : l2.length ≤ 9223372036854775807) (hc1 : l1.length ≤ cap1) (hc2 : l2.length ≤ cap2) (hm1 : mayChainB ep1 l1 = true) (hm2 : mayChainB ep2 l2 = true) (hlt : late = false) (he : ep2 < ep1) :
    Calls Try.prog 4 #[.agg #[.int .i64 ep1, .slice A1 n1 cap1], .agg #[.int .i64 ep2, .slice A2 n2 cap2], .bool late] w fun e w' => e = .returned (.bool true) ∧ Below w.heap.size w w' := by
  have h51 := may_len' hm1
  obtain ⟨x0, hx00⟩ : ∃ x0, x0 = l1.getD 0 0 := ⟨_, rfl⟩
  have h52 := may_len' hm2
  refine hide_post fun D hD => ?_
  obtain ⟨W0, hW0⟩ : ∃ W0, W0 = ((w.alloc (.cells #[.int .i64 ep1, .slice A1 n1 cap1] 39)).alloc (.cells #[.int .i64 ep2, .slice A2 n2 cap2] 39)) := ⟨_, rfl⟩
  have hx0 : Ext w W0 := by rw [hW0]; exact Ext.trans (Ext.alloc _ _) (Ext.alloc _ _)
  have ka : Blk W0 w.heap.size 39 #[.int .i64 ep1, .slice A1 n1 cap1] := by rw [hW0]; exact (Blk.new _ _ _).alloc _
  have kb : Blk W0 (w.heap.size + 1) 39 #[.int .i64 ep2, .slice A2 n2 cap2] := by rw [hW0]; exact Blk.new' _ _ _ _ (by simp)
  have fz00 : ∀ V, Kt w.heap.size W0 V → V.cell? ⟨w.heap.size, 0, none⟩ = some (.int .i64 ep1) := fun V h => (h.2 _ _ _ (by decide) (by decide) ka).cell 0
  have fz01 : ∀ V, Kt w.heap.size W0 V → V.cell? ⟨w.heap.size, 1, none⟩ = some (.slice A1 n1 cap1) := fun V h => (h.2 _ _ _ (by decide) (by decide) ka).cell 1
  have fz10 : ∀ V, Kt w.heap.size W0 V → V.cell? ⟨(w.heap.size + 1), 0, none⟩ = some (.int .i64 ep2) := fun V h => (h.2 _ _ _ (by decide) (by decide) kb).cell 0
  have fz11 : ∀ V, Kt w.heap.size W0 V → V.cell? ⟨(w.heap.size + 1), 1, none⟩ = some (.slice A2 n2 cap2) := fun V h => (h.2 _ _ _ (by decide) (by decide) kb).cell 1
  have HW0 := Lib.hid hW0
  have HX0 := Lib.hid hx0
  have K0 : Hid (Kt w.heap.size W0 W0) := Kt.refl _ _
  have HKE : Hid (∀ V V', Kt w.heap.size W0 V → Ext V V' → Kt w.heap.size W0 V') := fun V V' h h' => h.trans (Kt.ext h' (Nat.le_trans hx0.size h.1.size))
  have HT : Hid (∀ V, Calls Try.prog 18 #[] V fun e w' => e = .returned (.bool true) ∧ Ext V w') := told21
  have CA : Hid (∀ V, Kt w.heap.size W0 V → Calls Try.prog 19 #[.agg #[.int .i64 ep1, .slice A1 n1 cap1]] V fun e w' => e = .returned (.bool true) ∧ Ext V w') := fun V hV => by rw [← hm1, hn1]; exact refMayChain_any ep1 A1 cap1 l1 V hl1 (hs1.stay (Below.trans hx0 hV.1))
  have CB : Hid (∀ V, Kt w.heap.size W0 V → Calls Try.prog 19 #[.agg #[.int .i64 ep2, .slice A2 n2 cap2]] V fun e w' => e = .returned (.bool true) ∧ Ext V w') := fun V hV => by rw [← hm2, hn2]; exact refMayChain_any ep2 A2 cap2 l2 V hl2 (hs2.stay (Below.trans hx0 hV.1))
  have CN : Hid (∀ V, Kt w.heap.size W0 V → Calls Try.prog 13 #[.int .i64 2, .int .i64 5] V fun e w' => ∃ P, e = .returned (.tuple #[.pointer (some ⟨P, 0, none⟩), .int .i64 0]) ∧ ClAt w.heap.size w' P ⟨2, 5, 0, 0, [], none⟩ ∧ Ext V w') := fun V hV => (new_yes 2 5 V (by decide) (by decide) (by decide) (by decide)).mono fun e w' ⟨h1, h2, h3⟩ => ⟨_, h1, h2.mono (Nat.le_trans hx0.size hV.1.size), h3⟩
  have CQ : Hid (∀ V P, ClAt w.heap.size V P ⟨2, 5, 0, 0, [], none⟩ → Calls Try.prog 14 #[.pointer (some ⟨P, 0, none⟩), .int .i64 0, .agg #[.int .i64 0, .int .i64 0, .int .i64 1, .int .i64 1, .int .i64 0, .string ⟨#[120]⟩]] V fun e w' => ∃ a, e = .returned (.tuple #[.int .i64 a, .int .i64 0]) ∧ ClAt w.heap.size w' P ⟨2, 5, 1, 0, [], some ⟨2, 1, 1, 1, 0, ⟨#[120]⟩, 0, 1⟩⟩ ∧ Kt w.heap.size V w') := fun V P H => by
    refine (ask_any w.heap.size P 2 5 0 0 [] none 0 0 0 1 1 0 ⟨#[120]⟩ V H (by decide) (by decide) (by decide) (by decide)).mono ?_
    rintro e w' ⟨a, f, rfl, hk, h | h⟩
    · have hm : mayReqB 2 (0 + 1) 1 1 0 (ByteArray.size ⟨#[120]⟩) = true := by decide
      rcases h.1 with ⟨h1, _⟩ | ⟨_, _, _, h1, _⟩
      · rw [hm] at h1
        simp at h1
      · exact absurd rfl h1
    · obtain ⟨_, _, _, _, rfl, rfl, h7⟩ := h
      exact ⟨_, rfl, h7, hk⟩
  have CTA : Hid (∀ V P, Kt w.heap.size W0 V → ClAt w.heap.size V P ⟨2, 5, 1, 0, [], some ⟨2, 1, 1, 1, 0, ⟨#[120]⟩, 0, 1⟩⟩ → Calls Try.prog 20 #[.pointer (some ⟨P, 0, none⟩), .int .i64 1, .agg #[.int .i64 ep1, .slice A1 n1 cap1]] V fun e w' => e = .returned (.tuple #[]) ∧ ClAt w.heap.size w' P ⟨2, 5, 1, ep1, l1, some ⟨2, 1, 1, 1, 0, ⟨#[120]⟩, 0, 1⟩⟩ ∧ Kt w.heap.size V w') := fun V P hV H => by rw [hn1]; exact told_y w.heap.size P 2 5 1 0 [] 2 1 1 1 0 ⟨#[120]⟩ 0 1 1 ep1 A1 cap1 l1 V H (by omega) hc1 (hs1.stay (Below.trans hx0 hV.1)) rfl hm1 (may_ep hm1)
  have CTB : Hid (∀ V P, Kt w.heap.size W0 V → ClAt w.heap.size V P ⟨2, 5, 1, ep1, l1, some ⟨2, 1, 1, 1, 0, ⟨#[120]⟩, 0, 1⟩⟩ → Calls Try.prog 20 #[.pointer (some ⟨P, 0, none⟩), .int .i64 1, .agg #[.int .i64 ep2, .slice A2 n2 cap2]] V fun e w' => e = .returned (.tuple #[]) ∧ Ext V w') := fun V P hV H => by rw [hn2]; exact told_e w.heap.size P 2 5 1 ep1 l1 2 1 1 1 0 ⟨#[120]⟩ 0 1 1 ep2 A2 cap2 l2 V H (by omega) hc2 (hs2.stay (Below.trans hx0 hV.1)) rfl hm2 he
  have CK : Hid (∀ V P, ClAt w.heap.size V P ⟨2, 5, 1, ep1, l1, some ⟨2, 1, 1, 1, 0, ⟨#[120]⟩, 0, 1⟩⟩ → Calls Try.prog 15 #[.pointer (some ⟨P, 0, none⟩), .int .i64 8] V fun e w' => e = .returned (.tuple #[.int .i64 x0, .bool true]) ∧ ClAt w.heap.size w' P ⟨2, 5, 1, ep1, l1, some ⟨2, 1, 1, 1, 0, ⟨#[120]⟩, 8, 2⟩⟩ ∧ Kt w.heap.size V w') := fun V P H => by
    have h := tick_y w.heap.size P 2 5 1 ep1 l1 2 1 1 1 0 ⟨#[120]⟩ 0 1 8 2 V H (by decide) (by omega) (by decide) (by decide) (by decide) (by decide) (by decide) (by decide)
    rw [show targetF l1 5 2 (decide ((1 : Int) = 1 ∨ (1 : Int) = 2 ∨ (1 : Int) = 3)) = x0 by rw [hx00]; exact target_may hm1] at h
    exact h
  have CR : Hid (∀ V P, ClAt w.heap.size V P ⟨2, 5, 1, ep1, l1, some ⟨2, 1, 1, 1, 0, ⟨#[120]⟩, 8, 2⟩⟩ → Calls Try.prog 17 #[.pointer (some ⟨P, 0, none⟩)] V fun e w' => e = .returned (.int .i64 2) ∧ Ext V w') := fun V P H => tries_s w.heap.size P 2 5 1 ep1 l1 2 1 1 1 0 ⟨#[120]⟩ 8 2 V H
  have b1 : ¬ (8 : Int) < (n1 : Int) := by omega
  have b2 : ¬ (8 : Int) < (n2 : Int) := by omega
  obtain ⟨gb, go, rfl, hq⟩ := hs1.at_ (k := 0) (may_pos hm1)
  have HQ : Hid (∀ V, Kt w.heap.size W0 V → V.cell? ⟨gb, go, none⟩ = some (.int .i64 x0)) := fun V hV => by
    rw [hx00, ← List.getElem_eq_getD (h := may_pos hm1)]
    exact cell_stay (Below.trans hx0 hV.1) hq
  have hnp : (0 : Int) < (n1 : Int) := by have := may_pos hm1; omega
  clear ka kb hW0 hx0 hs1 hs2 hl1 hl2 hm1 hm2 hn1 hn2 hc1 hc2 h51 h52 hq hx00
  subst hlt
  go_enter Try.func4, Try.ntmps4
  go_wp2_with fail
  rw [← HW0.out]
  have W0z00 := fz00 _ K0.out; have W0z01 := fz01 _ K0.out; have W0z10 := fz10 _ K0.out; have W0z11 := fz11 _ K0.out
  have UB : Hid (∀ wv, Kt w.heap.size W0 wv → True) := fun _ _ => trivial
  go_wp2_with (first
    | (go_at_call 19; (with_reducible refine (CA.out _ K0.out).mono ?_); rintro e w1 ⟨rfl, hx⟩; have Kw1 : Hid (Kt w.heap.size W0 w1) := HKE.out _ _ K0.out hx; have w1z00 := fz00 _ Kw1.out; have w1z01 := fz01 _ Kw1.out; have w1z10 := fz10 _ Kw1.out; have w1z11 := fz11 _ Kw1.out; clear hx)
    | (go_at_call 19; (with_reducible refine (CB.out _ Kw1.out).mono ?_); rintro e w2 ⟨rfl, hx⟩; have Kw2 : Hid (Kt w.heap.size W0 w2) := HKE.out _ _ Kw1.out hx; have w2z00 := fz00 _ Kw2.out; have w2z01 := fz01 _ Kw2.out; have w2z10 := fz10 _ Kw2.out; have w2z11 := fz11 _ Kw2.out; clear hx)
    | (go_at_call 13; (with_reducible refine (CN.out _ Kw2.out).mono ?_); rintro e w3 ⟨P, rfl, hc, hx⟩; have Kw3 : Hid (Kt w.heap.size W0 w3) := HKE.out _ _ Kw2.out hx; have w3z00 := fz00 _ Kw3.out; have w3z01 := fz01 _ Kw3.out; have w3z10 := fz10 _ Kw3.out; have w3z11 := fz11 _ Kw3.out; have HC3 := Lib.hid hc; clear hc; clear hx)
    | (go_at_call 14; (with_reducible refine (CQ.out _ _ HC3.out).mono ?_); rintro e w4 ⟨a, rfl, hc, hk⟩; have Kw4 : Hid (Kt w.heap.size W0 w4) := Kw3.out.trans hk; have w4z00 := fz00 _ Kw4.out; have w4z01 := fz01 _ Kw4.out; have w4z10 := fz10 _ Kw4.out; have w4z11 := fz11 _ Kw4.out; have HC4 := Lib.hid hc; clear hc; clear hk)
    | (go_at_call 20; (with_reducible refine (CTA.out _ _ Kw4.out HC4.out).mono ?_); rintro e w5 ⟨rfl, hc, hk⟩; have Kw5 : Hid (Kt w.heap.size W0 w5) := Kw4.out.trans hk; have w5z00 := fz00 _ Kw5.out; have w5z01 := fz01 _ Kw5.out; have w5z10 := fz10 _ Kw5.out; have w5z11 := fz11 _ Kw5.out; have HC5 := Lib.hid hc; clear hc; clear hk)
    | (go_at_call 20; (with_reducible refine (CTB.out _ _ Kw5.out HC5.out).mono ?_); rintro e wv ⟨rfl, hx⟩; have Kwv : Hid (Kt w.heap.size W0 wv) := HKE.out _ _ Kw5.out hx; have wvz00 := fz00 _ Kwv.out; have wvz01 := fz01 _ Kwv.out; have wvz10 := fz10 _ Kwv.out; have wvz11 := fz11 _ Kwv.out; have ub00 : ∀ o, (wv.alloc o).cell? ⟨w.heap.size, 0, none⟩ = some (.int .i64 ep1) := fun o => fz00 _ (HKE.out _ _ Kwv.out (Ext.alloc _ _)); have ub01 : ∀ o, (wv.alloc o).cell? ⟨w.heap.size, 1, none⟩ = some (.slice (some ⟨gb, go, none⟩) n1 cap1) := fun o => fz01 _ (HKE.out _ _ Kwv.out (Ext.alloc _ _)); have ub10 : ∀ o, (wv.alloc o).cell? ⟨(w.heap.size + 1), 0, none⟩ = some (.int .i64 ep2) := fun o => fz10 _ (HKE.out _ _ Kwv.out (Ext.alloc _ _)); have ub11 : ∀ o, (wv.alloc o).cell? ⟨(w.heap.size + 1), 1, none⟩ = some (.slice A2 n2 cap2) := fun o => fz11 _ (HKE.out _ _ Kwv.out (Ext.alloc _ _)); have HC6 := Lib.hid (HC5.out.stay hx); clear hx)
    | (go_at_call 15; (with_reducible refine (CK.out (wv.alloc (.cells #[.int .i64 ep1, .slice (some ⟨gb, go, none⟩) n1 cap1] 39)) P (HC6.out.stay (Ext.alloc _ _))).mono ?_); rintro e w8 ⟨rfl, hc, hk⟩; have HC8 := Lib.hid hc; have K8 : Hid (Kt w.heap.size W0 w8) := (HKE.out _ _ Kwv.out (Ext.alloc _ _)).trans hk; have HW8 : Hid (Blk w8 wv.heap.size 39 #[.int .i64 ep1, .slice (some ⟨gb, go, none⟩) n1 cap1]) := hk.2 _ _ _ (by decide) (by decide) (Blk.new wv 39 #[.int .i64 ep1, .slice (some ⟨gb, go, none⟩) n1 cap1]); clear hc hk)
    | (go_at_call 18; (with_reducible refine (HT.out _).mono ?_); rintro e w9 ⟨rfl, hx⟩; have K9 : Hid (Kt w.heap.size W0 w9) := HKE.out _ _ K8.out hx; have HC9 := Lib.hid (HC8.out.stay hx); have kw := HW8.out.stay hx; have y0 := kw.cell 0; have y1 := kw.cell 1; have hq9 := HQ.out _ K9.out; simp at y0 y1; clear hx kw)
    | (go_at_call 17; (with_reducible refine (CR.out _ _ HC9.out).mono ?_); rintro e w10 ⟨rfl, hx⟩; have K10 : Hid (Kt w.heap.size W0 w10) := HKE.out _ _ K9.out hx; clear hx))
  try go_ret
  exact hD.out _ _ ⟨rfl, Below.trans HX0.out K10.out.1⟩

set_option maxRecDepth 8000 in
set_option maxHeartbeats 16000000 in
theorem knows_Y (ep1 : Int) (A1 : Option Addr) (cap1 n1 : Nat) (l1 : List Int) (ep2 : Int) (A2 : Option Addr) (cap2 n2 : Nat) (l2 : List Int) (late : Bool) (w : World) (hn1 : n1 = l1.length) (hn2 : n2 = l2.length) (hs1 : Sl i64 w A1 l1) (hs2 : Sl i64 w A2 l2) (hl1 : l1.length ≤ 9223372036854775807) (hl2 : l2.length ≤ 9223372036854775807) (hc1 : l1.length ≤ cap1) (hc2 : l2.length ≤ cap2) (hm1 : mayChainB ep1 l1 = true) (hm2 : mayChainB ep2 l2 = true) (hlt : late = false) (he : ep1 ≤ ep2) :
    Calls Try.prog 4 #[.agg #[.int .i64 ep1, .slice A1 n1 cap1], .agg #[.int .i64 ep2, .slice A2 n2 cap2], .bool late] w fun e w' => e = .returned (.bool true) ∧ Below w.heap.size w w' := by
  have h51 := may_len' hm1
  obtain ⟨x0, hx00⟩ : ∃ x0, x0 = l2.getD 0 0 := ⟨_, rfl⟩
  have h52 := may_len' hm2
  refine hide_post fun D hD => ?_
  obtain ⟨W0, hW0⟩ : ∃ W0, W0 = ((w.alloc (.cells #[.int .i64 ep1, .slice A1 n1 cap1] 39)).alloc (.cells #[.int .i64 ep2, .slice A2 n2 cap2] 39)) := ⟨_, rfl⟩
  have hx0 : Ext w W0 := by rw [hW0]; exact Ext.trans (Ext.alloc _ _) (Ext.alloc _ _)
  have ka : Blk W0 w.heap.size 39 #[.int .i64 ep1, .slice A1 n1 cap1] := by rw [hW0]; exact (Blk.new _ _ _).alloc _
  have kb : Blk W0 (w.heap.size + 1) 39 #[.int .i64 ep2, .slice A2 n2 cap2] := by rw [hW0]; exact Blk.new' _ _ _ _ (by simp)
  have fz00 : ∀ V, Kt w.heap.size W0 V → V.cell? ⟨w.heap.size, 0, none⟩ = some (.int .i64 ep1) := fun V h => (h.2 _ _ _ (by decide) (by decide) ka).cell 0
  have fz01 : ∀ V, Kt w.heap.size W0 V → V.cell? ⟨w.heap.size, 1, none⟩ = some (.slice A1 n1 cap1) := fun V h => (h.2 _ _ _ (by decide) (by decide) ka).cell 1
  have fz10 : ∀ V, Kt w.heap.size W0 V → V.cell? ⟨(w.heap.size + 1), 0, none⟩ = some (.int .i64 ep2) := fun V h => (h.2 _ _ _ (by decide) (by decide) kb).cell 0
  have fz11 : ∀ V, Kt w.heap.size W0 V → V.cell? ⟨(w.heap.size + 1), 1, none⟩ = some (.slice A2 n2 cap2) := fun V h => (h.2 _ _ _ (by decide) (by decide) kb).cell 1
  have HW0 := Lib.hid hW0
  have HX0 := Lib.hid hx0
  have K0 : Hid (Kt w.heap.size W0 W0) := Kt.refl _ _
  have HKE : Hid (∀ V V', Kt w.heap.size W0 V → Ext V V' → Kt w.heap.size W0 V') := fun V V' h h' => h.trans (Kt.ext h' (Nat.le_trans hx0.size h.1.size))
  have HT : Hid (∀ V, Calls Try.prog 18 #[] V fun e w' => e = .returned (.bool true) ∧ Ext V w') := told21
  have CA : Hid (∀ V, Kt w.heap.size W0 V → Calls Try.prog 19 #[.agg #[.int .i64 ep1, .slice A1 n1 cap1]] V fun e w' => e = .returned (.bool true) ∧ Ext V w') := fun V hV => by rw [← hm1, hn1]; exact refMayChain_any ep1 A1 cap1 l1 V hl1 (hs1.stay (Below.trans hx0 hV.1))
  have CB : Hid (∀ V, Kt w.heap.size W0 V → Calls Try.prog 19 #[.agg #[.int .i64 ep2, .slice A2 n2 cap2]] V fun e w' => e = .returned (.bool true) ∧ Ext V w') := fun V hV => by rw [← hm2, hn2]; exact refMayChain_any ep2 A2 cap2 l2 V hl2 (hs2.stay (Below.trans hx0 hV.1))
  have CN : Hid (∀ V, Kt w.heap.size W0 V → Calls Try.prog 13 #[.int .i64 2, .int .i64 5] V fun e w' => ∃ P, e = .returned (.tuple #[.pointer (some ⟨P, 0, none⟩), .int .i64 0]) ∧ ClAt w.heap.size w' P ⟨2, 5, 0, 0, [], none⟩ ∧ Ext V w') := fun V hV => (new_yes 2 5 V (by decide) (by decide) (by decide) (by decide)).mono fun e w' ⟨h1, h2, h3⟩ => ⟨_, h1, h2.mono (Nat.le_trans hx0.size hV.1.size), h3⟩
  have CQ : Hid (∀ V P, ClAt w.heap.size V P ⟨2, 5, 0, 0, [], none⟩ → Calls Try.prog 14 #[.pointer (some ⟨P, 0, none⟩), .int .i64 0, .agg #[.int .i64 0, .int .i64 0, .int .i64 1, .int .i64 1, .int .i64 0, .string ⟨#[120]⟩]] V fun e w' => ∃ a, e = .returned (.tuple #[.int .i64 a, .int .i64 0]) ∧ ClAt w.heap.size w' P ⟨2, 5, 1, 0, [], some ⟨2, 1, 1, 1, 0, ⟨#[120]⟩, 0, 1⟩⟩ ∧ Kt w.heap.size V w') := fun V P H => by
    refine (ask_any w.heap.size P 2 5 0 0 [] none 0 0 0 1 1 0 ⟨#[120]⟩ V H (by decide) (by decide) (by decide) (by decide)).mono ?_
    rintro e w' ⟨a, f, rfl, hk, h | h⟩
    · have hm : mayReqB 2 (0 + 1) 1 1 0 (ByteArray.size ⟨#[120]⟩) = true := by decide
      rcases h.1 with ⟨h1, _⟩ | ⟨_, _, _, h1, _⟩
      · rw [hm] at h1
        simp at h1
      · exact absurd rfl h1
    · obtain ⟨_, _, _, _, rfl, rfl, h7⟩ := h
      exact ⟨_, rfl, h7, hk⟩
  have CTA : Hid (∀ V P, Kt w.heap.size W0 V → ClAt w.heap.size V P ⟨2, 5, 1, 0, [], some ⟨2, 1, 1, 1, 0, ⟨#[120]⟩, 0, 1⟩⟩ → Calls Try.prog 20 #[.pointer (some ⟨P, 0, none⟩), .int .i64 1, .agg #[.int .i64 ep1, .slice A1 n1 cap1]] V fun e w' => e = .returned (.tuple #[]) ∧ ClAt w.heap.size w' P ⟨2, 5, 1, ep1, l1, some ⟨2, 1, 1, 1, 0, ⟨#[120]⟩, 0, 1⟩⟩ ∧ Kt w.heap.size V w') := fun V P hV H => by rw [hn1]; exact told_y w.heap.size P 2 5 1 0 [] 2 1 1 1 0 ⟨#[120]⟩ 0 1 1 ep1 A1 cap1 l1 V H (by omega) hc1 (hs1.stay (Below.trans hx0 hV.1)) rfl hm1 (may_ep hm1)
  have CTB : Hid (∀ V P, Kt w.heap.size W0 V → ClAt w.heap.size V P ⟨2, 5, 1, ep1, l1, some ⟨2, 1, 1, 1, 0, ⟨#[120]⟩, 0, 1⟩⟩ → Calls Try.prog 20 #[.pointer (some ⟨P, 0, none⟩), .int .i64 1, .agg #[.int .i64 ep2, .slice A2 n2 cap2]] V fun e w' => e = .returned (.tuple #[]) ∧ ClAt w.heap.size w' P ⟨2, 5, 1, ep2, l2, some ⟨2, 1, 1, 1, 0, ⟨#[120]⟩, 0, 1⟩⟩ ∧ Kt w.heap.size V w') := fun V P hV H => by rw [hn2]; exact told_y w.heap.size P 2 5 1 ep1 l1 2 1 1 1 0 ⟨#[120]⟩ 0 1 1 ep2 A2 cap2 l2 V H (by omega) hc2 (hs2.stay (Below.trans hx0 hV.1)) rfl hm2 he
  have CK : Hid (∀ V P, ClAt w.heap.size V P ⟨2, 5, 1, ep2, l2, some ⟨2, 1, 1, 1, 0, ⟨#[120]⟩, 0, 1⟩⟩ → Calls Try.prog 15 #[.pointer (some ⟨P, 0, none⟩), .int .i64 8] V fun e w' => e = .returned (.tuple #[.int .i64 x0, .bool true]) ∧ ClAt w.heap.size w' P ⟨2, 5, 1, ep2, l2, some ⟨2, 1, 1, 1, 0, ⟨#[120]⟩, 8, 2⟩⟩ ∧ Kt w.heap.size V w') := fun V P H => by
    have h := tick_y w.heap.size P 2 5 1 ep2 l2 2 1 1 1 0 ⟨#[120]⟩ 0 1 8 2 V H (by decide) (by omega) (by decide) (by decide) (by decide) (by decide) (by decide) (by decide)
    rw [show targetF l2 5 2 (decide ((1 : Int) = 1 ∨ (1 : Int) = 2 ∨ (1 : Int) = 3)) = x0 by rw [hx00]; exact target_may hm2] at h
    exact h
  have CR : Hid (∀ V P, ClAt w.heap.size V P ⟨2, 5, 1, ep2, l2, some ⟨2, 1, 1, 1, 0, ⟨#[120]⟩, 8, 2⟩⟩ → Calls Try.prog 17 #[.pointer (some ⟨P, 0, none⟩)] V fun e w' => e = .returned (.int .i64 2) ∧ Ext V w') := fun V P H => tries_s w.heap.size P 2 5 1 ep2 l2 2 1 1 1 0 ⟨#[120]⟩ 8 2 V H
  have b1 : ¬ (8 : Int) < (n1 : Int) := by omega
  have b2 : ¬ (8 : Int) < (n2 : Int) := by omega
  obtain ⟨gb, go, rfl, hq⟩ := hs2.at_ (k := 0) (may_pos hm2)
  have HQ : Hid (∀ V, Kt w.heap.size W0 V → V.cell? ⟨gb, go, none⟩ = some (.int .i64 x0)) := fun V hV => by
    rw [hx00, ← List.getElem_eq_getD (h := may_pos hm2)]
    exact cell_stay (Below.trans hx0 hV.1) hq
  have hnp : (0 : Int) < (n2 : Int) := by have := may_pos hm2; omega
  clear ka kb hW0 hx0 hs1 hs2 hl1 hl2 hm1 hm2 hn1 hn2 hc1 hc2 h51 h52 hq hx00
  subst hlt
  go_enter Try.func4, Try.ntmps4
  go_wp2_with fail
  rw [← HW0.out]
  have W0z00 := fz00 _ K0.out; have W0z01 := fz01 _ K0.out; have W0z10 := fz10 _ K0.out; have W0z11 := fz11 _ K0.out
  have UB : Hid (∀ wv, Kt w.heap.size W0 wv → True) := fun _ _ => trivial
  go_wp2_with (first
    | (go_at_call 19; (with_reducible refine (CA.out _ K0.out).mono ?_); rintro e w1 ⟨rfl, hx⟩; have Kw1 : Hid (Kt w.heap.size W0 w1) := HKE.out _ _ K0.out hx; have w1z00 := fz00 _ Kw1.out; have w1z01 := fz01 _ Kw1.out; have w1z10 := fz10 _ Kw1.out; have w1z11 := fz11 _ Kw1.out; clear hx)
    | (go_at_call 19; (with_reducible refine (CB.out _ Kw1.out).mono ?_); rintro e w2 ⟨rfl, hx⟩; have Kw2 : Hid (Kt w.heap.size W0 w2) := HKE.out _ _ Kw1.out hx; have w2z00 := fz00 _ Kw2.out; have w2z01 := fz01 _ Kw2.out; have w2z10 := fz10 _ Kw2.out; have w2z11 := fz11 _ Kw2.out; clear hx)
    | (go_at_call 13; (with_reducible refine (CN.out _ Kw2.out).mono ?_); rintro e w3 ⟨P, rfl, hc, hx⟩; have Kw3 : Hid (Kt w.heap.size W0 w3) := HKE.out _ _ Kw2.out hx; have w3z00 := fz00 _ Kw3.out; have w3z01 := fz01 _ Kw3.out; have w3z10 := fz10 _ Kw3.out; have w3z11 := fz11 _ Kw3.out; have HC3 := Lib.hid hc; clear hc; clear hx)
    | (go_at_call 14; (with_reducible refine (CQ.out _ _ HC3.out).mono ?_); rintro e w4 ⟨a, rfl, hc, hk⟩; have Kw4 : Hid (Kt w.heap.size W0 w4) := Kw3.out.trans hk; have w4z00 := fz00 _ Kw4.out; have w4z01 := fz01 _ Kw4.out; have w4z10 := fz10 _ Kw4.out; have w4z11 := fz11 _ Kw4.out; have HC4 := Lib.hid hc; clear hc; clear hk)
    | (go_at_call 20; (with_reducible refine (CTA.out _ _ Kw4.out HC4.out).mono ?_); rintro e w5 ⟨rfl, hc, hk⟩; have Kw5 : Hid (Kt w.heap.size W0 w5) := Kw4.out.trans hk; have w5z00 := fz00 _ Kw5.out; have w5z01 := fz01 _ Kw5.out; have w5z10 := fz10 _ Kw5.out; have w5z11 := fz11 _ Kw5.out; have HC5 := Lib.hid hc; clear hc; clear hk)
    | (go_at_call 20; (with_reducible refine (CTB.out _ _ Kw5.out HC5.out).mono ?_); rintro e wv ⟨rfl, hc, hk⟩; have Kwv : Hid (Kt w.heap.size W0 wv) := Kw5.out.trans hk; have wvz00 := fz00 _ Kwv.out; have wvz01 := fz01 _ Kwv.out; have wvz10 := fz10 _ Kwv.out; have wvz11 := fz11 _ Kwv.out; have ub00 : ∀ o, (wv.alloc o).cell? ⟨w.heap.size, 0, none⟩ = some (.int .i64 ep1) := fun o => fz00 _ (HKE.out _ _ Kwv.out (Ext.alloc _ _)); have ub01 : ∀ o, (wv.alloc o).cell? ⟨w.heap.size, 1, none⟩ = some (.slice A1 n1 cap1) := fun o => fz01 _ (HKE.out _ _ Kwv.out (Ext.alloc _ _)); have ub10 : ∀ o, (wv.alloc o).cell? ⟨(w.heap.size + 1), 0, none⟩ = some (.int .i64 ep2) := fun o => fz10 _ (HKE.out _ _ Kwv.out (Ext.alloc _ _)); have ub11 : ∀ o, (wv.alloc o).cell? ⟨(w.heap.size + 1), 1, none⟩ = some (.slice (some ⟨gb, go, none⟩) n2 cap2) := fun o => fz11 _ (HKE.out _ _ Kwv.out (Ext.alloc _ _)); have HC6 := Lib.hid hc; clear hc; clear hk)
    | (go_at_call 15; (with_reducible refine (CK.out (wv.alloc (.cells #[.int .i64 ep2, .slice (some ⟨gb, go, none⟩) n2 cap2] 39)) P (HC6.out.stay (Ext.alloc _ _))).mono ?_); rintro e w8 ⟨rfl, hc, hk⟩; have HC8 := Lib.hid hc; have K8 : Hid (Kt w.heap.size W0 w8) := (HKE.out _ _ Kwv.out (Ext.alloc _ _)).trans hk; have HW8 : Hid (Blk w8 wv.heap.size 39 #[.int .i64 ep2, .slice (some ⟨gb, go, none⟩) n2 cap2]) := hk.2 _ _ _ (by decide) (by decide) (Blk.new wv 39 #[.int .i64 ep2, .slice (some ⟨gb, go, none⟩) n2 cap2]); clear hc hk)
    | (go_at_call 18; (with_reducible refine (HT.out _).mono ?_); rintro e w9 ⟨rfl, hx⟩; have K9 : Hid (Kt w.heap.size W0 w9) := HKE.out _ _ K8.out hx; have HC9 := Lib.hid (HC8.out.stay hx); have kw := HW8.out.stay hx; have y0 := kw.cell 0; have y1 := kw.cell 1; have hq9 := HQ.out _ K9.out; simp at y0 y1; clear hx kw)
    | (go_at_call 17; (with_reducible refine (CR.out _ _ HC9.out).mono ?_); rintro e w10 ⟨rfl, hx⟩; have K10 : Hid (Kt w.heap.size W0 w10) := HKE.out _ _ K9.out hx; clear hx))
  try go_ret
  exact hD.out _ _ ⟨rfl, Below.trans HX0.out K10.out.1⟩

theorem walk_clientKnows (ep1 : Int) (A1 : Option Addr) (cap1 : Nat) (l1 : List Int) (ep2 : Int) (A2 : Option Addr) (cap2 : Nat) (l2 : List Int) (late : Bool) (w : World) (hc1 : l1.length ≤ cap1) (hl1 : l1.length ≤ 9223372036854775807) (hs1 : Sl i64 w A1 l1) (hc2 : l2.length ≤ cap2) (hl2 : l2.length ≤ 9223372036854775807) (hs2 : Sl i64 w A2 l2) :
    Calls Try.prog 4 #[.agg #[.int .i64 ep1, .slice A1 l1.length cap1], .agg #[.int .i64 ep2, .slice A2 l2.length cap2], .bool late] w fun e w' => e = .returned (.bool true) ∧ Below w.heap.size w w' := by
  by_cases h : 8 < l1.length ∨ 8 < l2.length ∨ mayChainB ep1 l1 = false ∨ mayChainB ep2 l2 = false
  · exact knows_no ep1 A1 cap1 _ l1 ep2 A2 cap2 _ l2 late w rfl rfl hs1 hs2 hl1 hl2 _ _ rfl rfl h
  · have hm1 : mayChainB ep1 l1 = true := by
      cases hm : mayChainB ep1 l1 with
      | true => rfl
      | false => exact absurd (.inr (.inr (.inl hm))) h
    have hm2 : mayChainB ep2 l2 = true := by
      cases hm : mayChainB ep2 l2 with
      | true => rfl
      | false => exact absurd (.inr (.inr (.inr hm))) h
    cases hlt : late with
    | true => exact knows_L ep1 A1 cap1 _ l1 ep2 A2 cap2 _ l2 true w rfl rfl hs1 hs2 hl1 hl2 hc1 hc2 hm1 hm2 rfl
    | false =>
      by_cases he : ep2 < ep1
      · exact knows_E ep1 A1 cap1 _ l1 ep2 A2 cap2 _ l2 false w rfl rfl hs1 hs2 hl1 hl2 hc1 hc2 hm1 hm2 rfl he
      · exact knows_Y ep1 A1 cap1 _ l1 ep2 A2 cap2 _ l2 false w rfl rfl hs1 hs2 hl1 hl2 hc1 hc2 hm1 hm2 rfl (by omega)

set_option maxRecDepth 100000 in
theorem law_clientKnows {H : Type} {enc : TypeId × Value → H} (W : World) (base : Nat) (args : Array Value) (ds : List (DataW H)) (p : List MemPlace)
    (hval : ∀ (j : Nat) t v, Try.f4.params[j]? = some t → args[j]? = some v → Value.okWide Try.prog W .any base t v)
    (hA : DataW.TrodAll enc Try.prog W 0 (fun _ => true) true Try.f4.params.toList args.toList ds p) :
    Calls Try.prog 4 args W fun e W' => e = .returned (.bool true) ∧ Below W.heap.size W W' := by
  rw [Try.params4] at hA hval
  obtain ⟨v0, vs0, d0, ds0, p0, q0, hargs, rfl, rfl, h0, r0⟩ := trodAll_cons hA
  obtain ⟨v1, vs1, d1, ds1, p1, q1, rfl, rfl, rfl, h1, r1⟩ := trodAll_cons r0
  obtain ⟨v2, vs2, d2, ds2, p2, q2, rfl, rfl, rfl, h2, r2⟩ := trodAll_cons r1
  obtain ⟨rfl, rfl, rfl⟩ := trodAll_nil r2
  obtain rfl : args = #[v0, v1, v2] := by cases args; simp_all
  obtain ⟨ep0, A0, c0, l0, rfl, w0, x0, y0, z0, g0⟩ := open_chain (hval 0 39 v0 rfl rfl) h0
  obtain ⟨ep1, A1, c1, l1, rfl, w1, x1, y1, z1, g1⟩ := open_chain (hval 1 39 v1 rfl rfl) h1
  obtain ⟨a2, rfl, rfl, rfl⟩ := open_bool Try.underlying4 (hval 2 4 v2 rfl rfl) h2
  exact walk_clientKnows ep0 A0 c0 l0 ep1 A1 c1 l1 a2 W x0 (Nat.le_trans x0 y0) z0 x1 (Nat.le_trans x1 y1) z1

end Go.Proofs.Ytdbnaflaobncgaa
