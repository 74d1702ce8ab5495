/-
  The walk of the law ItemApart.
-/
import Derived.Test.YtdbnaflaobncgaaItemReqsWalk
import Derived.Test.YtdbnaflaobncgaaHeldR
import Derived.Test.YtdbnaflaobncgaaOpen
import Derived.BigQuiet
namespace Go.Proofs.Ytdbnaflaobncgaa
set_option linter.unusedVariables false
set_option linter.unusedSimpArgs false
open Go.RowKit Go.ChangeShapes Go.WideShapes

theorem ints_inj : ∀ {a b : List Nat}, ints a = ints b → a = b
  | [], [], _ => rfl
  | [], y :: s, h => by simp [ints] at h
  | x :: r, [], h => by simp [ints] at h
  | x :: r, y :: s, h => by
    have h1 : (x : Int) = (y : Int) ∧ ints r = ints s := by simpa [ints] using h
    rw [ints_inj h1.2, Int.ofNat_inj.1 h1.1]

set_option maxRecDepth 8000 in
set_option maxHeartbeats 8000000 in
theorem apart_no (c s k i m : Int) (d : ByteArray) (c2 s2 k2 i2 m2 : Int) (d2 : ByteArray) (ep1 : Int) (A1 : Option Addr) (cap1 n1 : Nat) (ep2 : Int) (A2 : Option Addr) (cap2 n2 : Nat) (w : World) (f g : Bool) (hd : d.size ≤ maxLen) (hd2 : d2.size ≤ maxLen) (hf : decide (d.size ≤ 300) = f) (hg : decide (d2.size ≤ 300) = g) (h : (f && g) = false ∨ 8 < n1 ∨ 8 < n2) :
    Calls Try.prog 11 #[.agg #[.int .i64 c, .int .i64 s, .int .i64 k, .int .i64 i, .int .i64 m, .string d], .agg #[.int .i64 c2, .int .i64 s2, .int .i64 k2, .int .i64 i2, .int .i64 m2, .string d2], .agg #[.int .i64 ep1, .slice A1 n1 cap1], .agg #[.int .i64 ep2, .slice A2 n2 cap2]] w fun e w' => e = .returned (.bool true) ∧ Below w.heap.size w w' := by
  refine hide_post fun D hD => ?_
  obtain ⟨W0, hW0⟩ : ∃ W0, W0 = ((((w.alloc (.cells #[.int .i64 c, .int .i64 s, .int .i64 k, .int .i64 i, .int .i64 m, .string d] 30)).alloc (.cells #[.int .i64 c2, .int .i64 s2, .int .i64 k2, .int .i64 i2, .int .i64 m2, .string d2] 30)).alloc (.cells #[.int .i64 ep1, .slice A1 n1 cap1] 39)).alloc (.cells #[.int .i64 ep2, .slice A2 n2 cap2] 39)) := ⟨_, rfl⟩
  have hx0 : Ext w W0 := by rw [hW0]; exact Ext.trans (Ext.trans (Ext.trans (Ext.alloc _ _) (Ext.alloc _ _)) (Ext.alloc _ _)) (Ext.alloc _ _)
  have kb0 : Blk W0 w.heap.size 30 #[.int .i64 c, .int .i64 s, .int .i64 k, .int .i64 i, .int .i64 m, .string d] := by rw [hW0]; exact (((Blk.new _ _ _).alloc _).alloc _).alloc _
  have fz00 : ∀ V, Ext W0 V → V.cell? ⟨w.heap.size, 0, none⟩ = some (.int .i64 c) := fun V h => (kb0.stay h).cell 0
  have fz01 : ∀ V, Ext W0 V → V.cell? ⟨w.heap.size, 1, none⟩ = some (.int .i64 s) := fun V h => (kb0.stay h).cell 1
  have fz02 : ∀ V, Ext W0 V → V.cell? ⟨w.heap.size, 2, none⟩ = some (.int .i64 k) := fun V h => (kb0.stay h).cell 2
  have fz03 : ∀ V, Ext W0 V → V.cell? ⟨w.heap.size, 3, none⟩ = some (.int .i64 i) := fun V h => (kb0.stay h).cell 3
  have fz04 : ∀ V, Ext W0 V → V.cell? ⟨w.heap.size, 4, none⟩ = some (.int .i64 m) := fun V h => (kb0.stay h).cell 4
  have fz05 : ∀ V, Ext W0 V → V.cell? ⟨w.heap.size, 5, none⟩ = some (.string d) := fun V h => (kb0.stay h).cell 5
  have kb1 : Blk W0 (w.heap.size + 1) 30 #[.int .i64 c2, .int .i64 s2, .int .i64 k2, .int .i64 i2, .int .i64 m2, .string d2] := by rw [hW0]; exact ((Blk.new' _ _ _ _ (by simp)).alloc _).alloc _
  have fz10 : ∀ V, Ext W0 V → V.cell? ⟨(w.heap.size + 1), 0, none⟩ = some (.int .i64 c2) := fun V h => (kb1.stay h).cell 0
  have fz11 : ∀ V, Ext W0 V → V.cell? ⟨(w.heap.size + 1), 1, none⟩ = some (.int .i64 s2) := fun V h => (kb1.stay h).cell 1
  have fz12 : ∀ V, Ext W0 V → V.cell? ⟨(w.heap.size + 1), 2, none⟩ = some (.int .i64 k2) := fun V h => (kb1.stay h).cell 2
  have fz13 : ∀ V, Ext W0 V → V.cell? ⟨(w.heap.size + 1), 3, none⟩ = some (.int .i64 i2) := fun V h => (kb1.stay h).cell 3
  have fz14 : ∀ V, Ext W0 V → V.cell? ⟨(w.heap.size + 1), 4, none⟩ = some (.int .i64 m2) := fun V h => (kb1.stay h).cell 4
  have fz15 : ∀ V, Ext W0 V → V.cell? ⟨(w.heap.size + 1), 5, none⟩ = some (.string d2) := fun V h => (kb1.stay h).cell 5
  have kb2 : Blk W0 (w.heap.size + 1 + 1) 39 #[.int .i64 ep1, .slice A1 n1 cap1] := by rw [hW0]; exact (Blk.new' _ _ _ _ (by simp)).alloc _
  have fz20 : ∀ V, Ext W0 V → V.cell? ⟨(w.heap.size + 1 + 1), 0, none⟩ = some (.int .i64 ep1) := fun V h => (kb2.stay h).cell 0
  have fz21 : ∀ V, Ext W0 V → V.cell? ⟨(w.heap.size + 1 + 1), 1, none⟩ = some (.slice A1 n1 cap1) := fun V h => (kb2.stay h).cell 1
  have kb3 : Blk W0 (w.heap.size + 1 + 1 + 1) 39 #[.int .i64 ep2, .slice A2 n2 cap2] := by rw [hW0]; exact Blk.new' _ _ _ _ (by simp)
  have fz30 : ∀ V, Ext W0 V → V.cell? ⟨(w.heap.size + 1 + 1 + 1), 0, none⟩ = some (.int .i64 ep2) := fun V h => (kb3.stay h).cell 0
  have fz31 : ∀ V, Ext W0 V → V.cell? ⟨(w.heap.size + 1 + 1 + 1), 1, none⟩ = some (.slice A2 n2 cap2) := fun V h => (kb3.stay h).cell 1
  have HW0 := Lib.hid hW0
  have HX0 := Lib.hid hx0
  have E0 : Hid (Ext W0 W0) := Ext.refl _
  have HT : Hid (∀ V, Ext W0 V → Calls Try.prog 29 #[] V fun e w' => e = .returned (.bool true) ∧ Ext V w') := fun V _ => told2 V
  have CFa : Hid (∀ V, Ext W0 V → Calls Try.prog 28 #[.agg #[.int .i64 c, .int .i64 s, .int .i64 k, .int .i64 i, .int .i64 m, .string d]] V fun e w' => e = .returned (.bool f) ∧ Ext V w') := fun V _ => by rw [← hf]; exact few_any c s k i m d V hd
  have CFb : Hid (∀ V, Ext W0 V → Calls Try.prog 28 #[.agg #[.int .i64 c2, .int .i64 s2, .int .i64 k2, .int .i64 i2, .int .i64 m2, .string d2]] V fun e w' => e = .returned (.bool g) ∧ Ext V w') := fun V _ => by rw [← hg]; exact few_any c2 s2 k2 i2 m2 d2 V hd2
  clear kb0 kb1 kb2 kb3 hx0 hW0 hf hg
  have h' : f = false ∨ (f = true ∧ g = false) ∨ (f = true ∧ g = true ∧ (8 : Int) < (n1 : Int)) ∨ (f = true ∧ g = true ∧ ¬ (8 : Int) < (n1 : Int) ∧ (8 : Int) < (n2 : Int)) := by
    cases f <;> cases g <;> simp at h <;> simp <;> omega
  clear h
  rcases h' with rfl | ⟨rfl, rfl⟩ | ⟨rfl, rfl, h1⟩ | ⟨rfl, rfl, h1, h2⟩
  · go_enter Try.func11, Try.ntmps11
    go_wp2_with fail
    rw [← HW0.out]
    have e0 := E0.out
    have W0z00 := fz00 W0 E0.out; have W0z01 := fz01 W0 E0.out; have W0z02 := fz02 W0 E0.out; have W0z03 := fz03 W0 E0.out; have W0z04 := fz04 W0 E0.out; have W0z05 := fz05 W0 E0.out; have W0z10 := fz10 W0 E0.out; have W0z11 := fz11 W0 E0.out; have W0z12 := fz12 W0 E0.out; have W0z13 := fz13 W0 E0.out; have W0z14 := fz14 W0 E0.out; have W0z15 := fz15 W0 E0.out; have W0z20 := fz20 W0 E0.out; have W0z21 := fz21 W0 E0.out; have W0z30 := fz30 W0 E0.out; have W0z31 := fz31 W0 E0.out
    go_wp2_with (first
      | (go_at_call 28; (with_reducible refine (CFa.out _ e0).mono ?_); rintro e w1 ⟨rfl, hx⟩; have Ew1 : Ext W0 w1 := Ext.trans e0 hx; have w1z00 := fz00 w1 Ew1; have w1z01 := fz01 w1 Ew1; have w1z02 := fz02 w1 Ew1; have w1z03 := fz03 w1 Ew1; have w1z04 := fz04 w1 Ew1; have w1z05 := fz05 w1 Ew1; have w1z10 := fz10 w1 Ew1; have w1z11 := fz11 w1 Ew1; have w1z12 := fz12 w1 Ew1; have w1z13 := fz13 w1 Ew1; have w1z14 := fz14 w1 Ew1; have w1z15 := fz15 w1 Ew1; have w1z20 := fz20 w1 Ew1; have w1z21 := fz21 w1 Ew1; have w1z30 := fz30 w1 Ew1; have w1z31 := fz31 w1 Ew1; clear hx)
      | (go_at_call 28; (with_reducible refine (CFb.out _ Ew1).mono ?_); rintro e w2 ⟨rfl, hx⟩; have Ew2 : Ext W0 w2 := Ext.trans Ew1 hx; have w2z00 := fz00 w2 Ew2; have w2z01 := fz01 w2 Ew2; have w2z02 := fz02 w2 Ew2; have w2z03 := fz03 w2 Ew2; have w2z04 := fz04 w2 Ew2; have w2z05 := fz05 w2 Ew2; have w2z10 := fz10 w2 Ew2; have w2z11 := fz11 w2 Ew2; have w2z12 := fz12 w2 Ew2; have w2z13 := fz13 w2 Ew2; have w2z14 := fz14 w2 Ew2; have w2z15 := fz15 w2 Ew2; have w2z20 := fz20 w2 Ew2; have w2z21 := fz21 w2 Ew2; have w2z30 := fz30 w2 Ew2; have w2z31 := fz31 w2 Ew2; clear hx)
      | (go_at_call 29; (with_reducible refine (HT.out _ Ew1).mono ?_); rintro e w3 ⟨rfl, hx⟩; have Ew3 : Ext W0 w3 := Ext.trans Ew1 hx; clear hx))
    try go_ret
    exact hD.out _ _ ⟨rfl, Ext.trans HX0.out Ew3⟩
  · go_enter Try.func11, Try.ntmps11
    go_wp2_with fail
    rw [← HW0.out]
    have e0 := E0.out
    have W0z00 := fz00 W0 E0.out; have W0z01 := fz01 W0 E0.out; have W0z02 := fz02 W0 E0.out; have W0z03 := fz03 W0 E0.out; have W0z04 := fz04 W0 E0.out; have W0z05 := fz05 W0 E0.out; have W0z10 := fz10 W0 E0.out; have W0z11 := fz11 W0 E0.out; have W0z12 := fz12 W0 E0.out; have W0z13 := fz13 W0 E0.out; have W0z14 := fz14 W0 E0.out; have W0z15 := fz15 W0 E0.out; have W0z20 := fz20 W0 E0.out; have W0z21 := fz21 W0 E0.out; have W0z30 := fz30 W0 E0.out; have W0z31 := fz31 W0 E0.out
    go_wp2_with (first
      | (go_at_call 28; (with_reducible refine (CFa.out _ e0).mono ?_); rintro e w1 ⟨rfl, hx⟩; have Ew1 : Ext W0 w1 := Ext.trans e0 hx; have w1z00 := fz00 w1 Ew1; have w1z01 := fz01 w1 Ew1; have w1z02 := fz02 w1 Ew1; have w1z03 := fz03 w1 Ew1; have w1z04 := fz04 w1 Ew1; have w1z05 := fz05 w1 Ew1; have w1z10 := fz10 w1 Ew1; have w1z11 := fz11 w1 Ew1; have w1z12 := fz12 w1 Ew1; have w1z13 := fz13 w1 Ew1; have w1z14 := fz14 w1 Ew1; have w1z15 := fz15 w1 Ew1; have w1z20 := fz20 w1 Ew1; have w1z21 := fz21 w1 Ew1; have w1z30 := fz30 w1 Ew1; have w1z31 := fz31 w1 Ew1; clear hx)
      | (go_at_call 28; (with_reducible refine (CFb.out _ Ew1).mono ?_); rintro e w2 ⟨rfl, hx⟩; have Ew2 : Ext W0 w2 := Ext.trans Ew1 hx; have w2z00 := fz00 w2 Ew2; have w2z01 := fz01 w2 Ew2; have w2z02 := fz02 w2 Ew2; have w2z03 := fz03 w2 Ew2; have w2z04 := fz04 w2 Ew2; have w2z05 := fz05 w2 Ew2; have w2z10 := fz10 w2 Ew2; have w2z11 := fz11 w2 Ew2; have w2z12 := fz12 w2 Ew2; have w2z13 := fz13 w2 Ew2; have w2z14 := fz14 w2 Ew2; have w2z15 := fz15 w2 Ew2; have w2z20 := fz20 w2 Ew2; have w2z21 := fz21 w2 Ew2; have w2z30 := fz30 w2 Ew2; have w2z31 := fz31 w2 Ew2; clear hx)
      | (go_at_call 29; (with_reducible refine (HT.out _ Ew2).mono ?_); rintro e w3 ⟨rfl, hx⟩; have Ew3 : Ext W0 w3 := Ext.trans Ew2 hx; clear hx))
    try go_ret
    exact hD.out _ _ ⟨rfl, Ext.trans HX0.out Ew3⟩
  · go_enter Try.func11, Try.ntmps11
    go_wp2_with fail
    rw [← HW0.out]
    have e0 := E0.out
    have W0z00 := fz00 W0 E0.out; have W0z01 := fz01 W0 E0.out; have W0z02 := fz02 W0 E0.out; have W0z03 := fz03 W0 E0.out; have W0z04 := fz04 W0 E0.out; have W0z05 := fz05 W0 E0.out; have W0z10 := fz10 W0 E0.out; have W0z11 := fz11 W0 E0.out; have W0z12 := fz12 W0 E0.out; have W0z13 := fz13 W0 E0.out; have W0z14 := fz14 W0 E0.out; have W0z15 := fz15 W0 E0.out; have W0z20 := fz20 W0 E0.out; have W0z21 := fz21 W0 E0.out; have W0z30 := fz30 W0 E0.out; have W0z31 := fz31 W0 E0.out
    go_wp2_with (first
      | (go_at_call 28; (with_reducible refine (CFa.out _ e0).mono ?_); rintro e w1 ⟨rfl, hx⟩; have Ew1 : Ext W0 w1 := Ext.trans e0 hx; have w1z00 := fz00 w1 Ew1; have w1z01 := fz01 w1 Ew1; have w1z02 := fz02 w1 Ew1; have w1z03 := fz03 w1 Ew1; have w1z04 := fz04 w1 Ew1; have w1z05 := fz05 w1 Ew1; have w1z10 := fz10 w1 Ew1; have w1z11 := fz11 w1 Ew1; have w1z12 := fz12 w1 Ew1; have w1z13 := fz13 w1 Ew1; have w1z14 := fz14 w1 Ew1; have w1z15 := fz15 w1 Ew1; have w1z20 := fz20 w1 Ew1; have w1z21 := fz21 w1 Ew1; have w1z30 := fz30 w1 Ew1; have w1z31 := fz31 w1 Ew1; clear hx)
      | (go_at_call 28; (with_reducible refine (CFb.out _ Ew1).mono ?_); rintro e w2 ⟨rfl, hx⟩; have Ew2 : Ext W0 w2 := Ext.trans Ew1 hx; have w2z00 := fz00 w2 Ew2; have w2z01 := fz01 w2 Ew2; have w2z02 := fz02 w2 Ew2; have w2z03 := fz03 w2 Ew2; have w2z04 := fz04 w2 Ew2; have w2z05 := fz05 w2 Ew2; have w2z10 := fz10 w2 Ew2; have w2z11 := fz11 w2 Ew2; have w2z12 := fz12 w2 Ew2; have w2z13 := fz13 w2 Ew2; have w2z14 := fz14 w2 Ew2; have w2z15 := fz15 w2 Ew2; have w2z20 := fz20 w2 Ew2; have w2z21 := fz21 w2 Ew2; have w2z30 := fz30 w2 Ew2; have w2z31 := fz31 w2 Ew2; clear hx)
      | (go_at_call 29; (with_reducible refine (HT.out _ Ew2).mono ?_); rintro e w3 ⟨rfl, hx⟩; have Ew3 : Ext W0 w3 := Ext.trans Ew2 hx; clear hx))
    try go_ret
    exact hD.out _ _ ⟨rfl, Ext.trans HX0.out Ew3⟩
  · go_enter Try.func11, Try.ntmps11
    go_wp2_with fail
    rw [← HW0.out]
    have e0 := E0.out
    have W0z00 := fz00 W0 E0.out; have W0z01 := fz01 W0 E0.out; have W0z02 := fz02 W0 E0.out; have W0z03 := fz03 W0 E0.out; have W0z04 := fz04 W0 E0.out; have W0z05 := fz05 W0 E0.out; have W0z10 := fz10 W0 E0.out; have W0z11 := fz11 W0 E0.out; have W0z12 := fz12 W0 E0.out; have W0z13 := fz13 W0 E0.out; have W0z14 := fz14 W0 E0.out; have W0z15 := fz15 W0 E0.out; have W0z20 := fz20 W0 E0.out; have W0z21 := fz21 W0 E0.out; have W0z30 := fz30 W0 E0.out; have W0z31 := fz31 W0 E0.out
    go_wp2_with (first
      | (go_at_call 28; (with_reducible refine (CFa.out _ e0).mono ?_); rintro e w1 ⟨rfl, hx⟩; have Ew1 : Ext W0 w1 := Ext.trans e0 hx; have w1z00 := fz00 w1 Ew1; have w1z01 := fz01 w1 Ew1; have w1z02 := fz02 w1 Ew1; have w1z03 := fz03 w1 Ew1; have w1z04 := fz04 w1 Ew1; have w1z05 := fz05 w1 Ew1; have w1z10 := fz10 w1 Ew1; have w1z11 := fz11 w1 Ew1; have w1z12 := fz12 w1 Ew1; have w1z13 := fz13 w1 Ew1; have w1z14 := fz14 w1 Ew1; have w1z15 := fz15 w1 Ew1; have w1z20 := fz20 w1 Ew1; have w1z21 := fz21 w1 Ew1; have w1z30 := fz30 w1 Ew1; have w1z31 := fz31 w1 Ew1; clear hx)
      | (go_at_call 28; (with_reducible refine (CFb.out _ Ew1).mono ?_); rintro e w2 ⟨rfl, hx⟩; have Ew2 : Ext W0 w2 := Ext.trans Ew1 hx; have w2z00 := fz00 w2 Ew2; have w2z01 := fz01 w2 Ew2; have w2z02 := fz02 w2 Ew2; have w2z03 := fz03 w2 Ew2; have w2z04 := fz04 w2 Ew2; have w2z05 := fz05 w2 Ew2; have w2z10 := fz10 w2 Ew2; have w2z11 := fz11 w2 Ew2; have w2z12 := fz12 w2 Ew2; have w2z13 := fz13 w2 Ew2; have w2z14 := fz14 w2 Ew2; have w2z15 := fz15 w2 Ew2; have w2z20 := fz20 w2 Ew2; have w2z21 := fz21 w2 Ew2; have w2z30 := fz30 w2 Ew2; have w2z31 := fz31 w2 Ew2; clear hx)
      | (go_at_call 29; (with_reducible refine (HT.out _ Ew2).mono ?_); rintro e w3 ⟨rfl, hx⟩; have Ew3 : Ext W0 w3 := Ext.trans Ew2 hx; clear hx))
    try go_ret
    exact hD.out _ _ ⟨rfl, Ext.trans HX0.out Ew3⟩

set_option maxRecDepth 8000 in
set_option maxHeartbeats 16000000 in
theorem apart_0_0 (c s k i m : Int) (d : ByteArray) (c2 s2 k2 i2 m2 : Int) (d2 : ByteArray) (ep1 : Int) (A1 : Option Addr) (cap1 n1 : Nat) (ep2 : Int) (A2 : Option Addr) (cap2 n2 : Nat) (w : World) (hd : d.size ≤ 300) (hd2 : d2.size ≤ 300) (hm : mayReqB c s k i m d.size = false) (l1 l2 : List Int) (hn1 : n1 = l1.length) (hn2 : n2 = l2.length) (h1 : n1 ≤ 8) (h2 : n2 ≤ 8) (hc1 : l1.length ≤ cap1) (hc2 : l2.length ≤ cap2) (hs1 : Sl i64 w A1 l1) (hs2 : Sl i64 w A2 l2) (hmc : mayChainB ep1 l1 = false) :
    Calls Try.prog 11 #[.agg #[.int .i64 c, .int .i64 s, .int .i64 k, .int .i64 i, .int .i64 m, .string d], .agg #[.int .i64 c2, .int .i64 s2, .int .i64 k2, .int .i64 i2, .int .i64 m2, .string d2], .agg #[.int .i64 ep1, .slice A1 n1 cap1], .agg #[.int .i64 ep2, .slice A2 n2 cap2]] w fun e w' => e = .returned (.bool true) ∧ Below w.heap.size w w' := by
  refine hide_post fun D hD => ?_
  obtain ⟨W0, hW0⟩ : ∃ W0, W0 = ((((w.alloc (.cells #[.int .i64 c, .int .i64 s, .int .i64 k, .int .i64 i, .int .i64 m, .string d] 30)).alloc (.cells #[.int .i64 c2, .int .i64 s2, .int .i64 k2, .int .i64 i2, .int .i64 m2, .string d2] 30)).alloc (.cells #[.int .i64 ep1, .slice A1 n1 cap1] 39)).alloc (.cells #[.int .i64 ep2, .slice A2 n2 cap2] 39)) := ⟨_, rfl⟩
  have hx0 : Ext w W0 := by rw [hW0]; exact Ext.trans (Ext.trans (Ext.trans (Ext.alloc _ _) (Ext.alloc _ _)) (Ext.alloc _ _)) (Ext.alloc _ _)
  have kb0 : Blk W0 w.heap.size 30 #[.int .i64 c, .int .i64 s, .int .i64 k, .int .i64 i, .int .i64 m, .string d] := by rw [hW0]; exact (((Blk.new _ _ _).alloc _).alloc _).alloc _
  have fz00 : ∀ V, Ext W0 V → V.cell? ⟨w.heap.size, 0, none⟩ = some (.int .i64 c) := fun V h => (kb0.stay h).cell 0
  have fz01 : ∀ V, Ext W0 V → V.cell? ⟨w.heap.size, 1, none⟩ = some (.int .i64 s) := fun V h => (kb0.stay h).cell 1
  have fz02 : ∀ V, Ext W0 V → V.cell? ⟨w.heap.size, 2, none⟩ = some (.int .i64 k) := fun V h => (kb0.stay h).cell 2
  have fz03 : ∀ V, Ext W0 V → V.cell? ⟨w.heap.size, 3, none⟩ = some (.int .i64 i) := fun V h => (kb0.stay h).cell 3
  have fz04 : ∀ V, Ext W0 V → V.cell? ⟨w.heap.size, 4, none⟩ = some (.int .i64 m) := fun V h => (kb0.stay h).cell 4
  have fz05 : ∀ V, Ext W0 V → V.cell? ⟨w.heap.size, 5, none⟩ = some (.string d) := fun V h => (kb0.stay h).cell 5
  have kb1 : Blk W0 (w.heap.size + 1) 30 #[.int .i64 c2, .int .i64 s2, .int .i64 k2, .int .i64 i2, .int .i64 m2, .string d2] := by rw [hW0]; exact ((Blk.new' _ _ _ _ (by simp)).alloc _).alloc _
  have fz10 : ∀ V, Ext W0 V → V.cell? ⟨(w.heap.size + 1), 0, none⟩ = some (.int .i64 c2) := fun V h => (kb1.stay h).cell 0
  have fz11 : ∀ V, Ext W0 V → V.cell? ⟨(w.heap.size + 1), 1, none⟩ = some (.int .i64 s2) := fun V h => (kb1.stay h).cell 1
  have fz12 : ∀ V, Ext W0 V → V.cell? ⟨(w.heap.size + 1), 2, none⟩ = some (.int .i64 k2) := fun V h => (kb1.stay h).cell 2
  have fz13 : ∀ V, Ext W0 V → V.cell? ⟨(w.heap.size + 1), 3, none⟩ = some (.int .i64 i2) := fun V h => (kb1.stay h).cell 3
  have fz14 : ∀ V, Ext W0 V → V.cell? ⟨(w.heap.size + 1), 4, none⟩ = some (.int .i64 m2) := fun V h => (kb1.stay h).cell 4
  have fz15 : ∀ V, Ext W0 V → V.cell? ⟨(w.heap.size + 1), 5, none⟩ = some (.string d2) := fun V h => (kb1.stay h).cell 5
  have kb2 : Blk W0 (w.heap.size + 1 + 1) 39 #[.int .i64 ep1, .slice A1 n1 cap1] := by rw [hW0]; exact (Blk.new' _ _ _ _ (by simp)).alloc _
  have fz20 : ∀ V, Ext W0 V → V.cell? ⟨(w.heap.size + 1 + 1), 0, none⟩ = some (.int .i64 ep1) := fun V h => (kb2.stay h).cell 0
  have fz21 : ∀ V, Ext W0 V → V.cell? ⟨(w.heap.size + 1 + 1), 1, none⟩ = some (.slice A1 n1 cap1) := fun V h => (kb2.stay h).cell 1
  have kb3 : Blk W0 (w.heap.size + 1 + 1 + 1) 39 #[.int .i64 ep2, .slice A2 n2 cap2] := by rw [hW0]; exact Blk.new' _ _ _ _ (by simp)
  have fz30 : ∀ V, Ext W0 V → V.cell? ⟨(w.heap.size + 1 + 1 + 1), 0, none⟩ = some (.int .i64 ep2) := fun V h => (kb3.stay h).cell 0
  have fz31 : ∀ V, Ext W0 V → V.cell? ⟨(w.heap.size + 1 + 1 + 1), 1, none⟩ = some (.slice A2 n2 cap2) := fun V h => (kb3.stay h).cell 1
  have HW0 := Lib.hid hW0
  have HX0 := Lib.hid hx0
  have E0 : Hid (Ext W0 W0) := Ext.refl _
  have HT : Hid (∀ V, Ext W0 V → Calls Try.prog 29 #[] V fun e w' => e = .returned (.bool true) ∧ Ext V w') := fun V _ => told2 V
  have hdm : d.size ≤ maxLen := by unfold maxLen; omega
  have hdm2 : d2.size ≤ maxLen := by unfold maxLen; omega
  have CFa : Hid (∀ V, Ext W0 V → Calls Try.prog 28 #[.agg #[.int .i64 c, .int .i64 s, .int .i64 k, .int .i64 i, .int .i64 m, .string d]] V fun e w' => e = .returned (.bool true) ∧ Ext V w') := fun V _ => by have h := few_any c s k i m d V hdm; rw [decide_eq_true hd] at h; exact h
  have CFb : Hid (∀ V, Ext W0 V → Calls Try.prog 28 #[.agg #[.int .i64 c2, .int .i64 s2, .int .i64 k2, .int .i64 i2, .int .i64 m2, .string d2]] V fun e w' => e = .returned (.bool true) ∧ Ext V w') := fun V _ => by have h := few_any c2 s2 k2 i2 m2 d2 V hdm2; rw [decide_eq_true hd2] at h; exact h
  have CPa : Hid (∀ V, Ext W0 V → Calls Try.prog 31 #[.agg #[.int .i64 c, .int .i64 s, .int .i64 k, .int .i64 i, .int .i64 m, .string d]] V fun e w' => e = .returned (.tuple #[.slice none 0 0, .int .i64 1]) ∧ Ext V w') := fun V hV => by
    exact putReq_no c s k i m d V hdm hm
  have CPb : Hid (∀ V, Ext W0 V → Calls Try.prog 31 #[.agg #[.int .i64 c2, .int .i64 s2, .int .i64 k2, .int .i64 i2, .int .i64 m2, .string d2]] V fun e w' => ∃ A' n' c' f', e = .returned (.tuple #[.slice A' n' c', .int .i64 f']) ∧ Ext V w') := fun V hV => by
    cases hmb : mayReqB c2 s2 k2 i2 m2 d2.size with
    | false => exact (putReq_no c2 s2 k2 i2 m2 d2 V hdm2 hmb).mono fun e w' ⟨h1, h2⟩ => ⟨_, _, _, _, h1, h2⟩
    | true =>
      obtain ⟨q, hq, he⟩ := rq_of hmb
      rw [he]
      exact (putReq_yes q V hq).mono fun e w' ⟨_, _, h1, _, h2⟩ => ⟨_, _, _, _, h1, h2⟩
  have CPc : Hid (∀ V, Ext W0 V → Calls Try.prog 38 #[.agg #[.int .i64 ep1, .slice A1 n1 cap1]] V fun e w' => e = .returned (.tuple #[.slice none 0 0, .int .i64 1]) ∧ Ext V w') := fun V hV => by
    rw [hn1]; exact putChain_no ep1 A1 cap1 l1 V (by omega) hc1 (hs1.stay (Ext.trans hx0 hV)) hmc
  have CPd : Hid (∀ V, Ext W0 V → Calls Try.prog 38 #[.agg #[.int .i64 ep2, .slice A2 n2 cap2]] V fun e w' => ∃ A' n' c' f', e = .returned (.tuple #[.slice A' n' c', .int .i64 f']) ∧ Ext V w') := fun V hV => by
    cases hmd : mayChainB ep2 l2 with
    | false =>
      rw [hn2]
      exact (putChain_no ep2 A2 cap2 l2 V (by omega) hc2 (hs2.stay (Ext.trans hx0 hV)) hmd).mono fun e w' ⟨h1, h2⟩ => ⟨_, _, _, _, h1, h2⟩
    | true =>
      obtain ⟨e8, ns8, he8, hl8⟩ := mayChainB_ints hmd
      rw [hn2, he8, hl8, ints_len]
      exact (putChain_yes e8 A2 cap2 ns8 V (by rw [hl8, ints_len] at hc2; exact hc2) (by rw [← hl8]; exact hs2.stay (Ext.trans hx0 hV)) (by rw [← he8, ← hl8]; exact hmd)).mono fun e w' ⟨_, _, h1, _, h2⟩ => ⟨_, _, _, _, h1, h2⟩
  have b1 : ¬ (8 : Int) < (n1 : Int) := by omega
  have b2 : ¬ (8 : Int) < (n2 : Int) := by omega
  clear kb0 kb1 kb2 kb3 hx0 hW0 hdm hd hdm2 hd2 hm hn1 hn2 hc1 hc2 hs1 hs2 hmc
  go_enter Try.func11, Try.ntmps11
  go_wp2_with fail
  rw [← HW0.out]
  have e0 := E0.out
  have W0z00 := fz00 W0 E0.out; have W0z01 := fz01 W0 E0.out; have W0z02 := fz02 W0 E0.out; have W0z03 := fz03 W0 E0.out; have W0z04 := fz04 W0 E0.out; have W0z05 := fz05 W0 E0.out; have W0z10 := fz10 W0 E0.out; have W0z11 := fz11 W0 E0.out; have W0z12 := fz12 W0 E0.out; have W0z13 := fz13 W0 E0.out; have W0z14 := fz14 W0 E0.out; have W0z15 := fz15 W0 E0.out; have W0z20 := fz20 W0 E0.out; have W0z21 := fz21 W0 E0.out; have W0z30 := fz30 W0 E0.out; have W0z31 := fz31 W0 E0.out
  go_wp2_with (first
    | (go_at_call 28; (with_reducible refine (CFa.out _ e0).mono ?_); rintro e w1 ⟨rfl, hx⟩; have Ew1 : Ext W0 w1 := Ext.trans e0 hx; have w1z00 := fz00 w1 Ew1; have w1z01 := fz01 w1 Ew1; have w1z02 := fz02 w1 Ew1; have w1z03 := fz03 w1 Ew1; have w1z04 := fz04 w1 Ew1; have w1z05 := fz05 w1 Ew1; have w1z10 := fz10 w1 Ew1; have w1z11 := fz11 w1 Ew1; have w1z12 := fz12 w1 Ew1; have w1z13 := fz13 w1 Ew1; have w1z14 := fz14 w1 Ew1; have w1z15 := fz15 w1 Ew1; have w1z20 := fz20 w1 Ew1; have w1z21 := fz21 w1 Ew1; have w1z30 := fz30 w1 Ew1; have w1z31 := fz31 w1 Ew1; clear hx)
    | (go_at_call 28; (with_reducible refine (CFb.out _ Ew1).mono ?_); rintro e w2 ⟨rfl, hx⟩; have Ew2 : Ext W0 w2 := Ext.trans Ew1 hx; have w2z00 := fz00 w2 Ew2; have w2z01 := fz01 w2 Ew2; have w2z02 := fz02 w2 Ew2; have w2z03 := fz03 w2 Ew2; have w2z04 := fz04 w2 Ew2; have w2z05 := fz05 w2 Ew2; have w2z10 := fz10 w2 Ew2; have w2z11 := fz11 w2 Ew2; have w2z12 := fz12 w2 Ew2; have w2z13 := fz13 w2 Ew2; have w2z14 := fz14 w2 Ew2; have w2z15 := fz15 w2 Ew2; have w2z20 := fz20 w2 Ew2; have w2z21 := fz21 w2 Ew2; have w2z30 := fz30 w2 Ew2; have w2z31 := fz31 w2 Ew2; clear hx)
    | (go_at_call 31; (with_reducible refine (CPa.out _ Ew2).mono ?_); rintro e w3 ⟨rfl, hx⟩; have Ew3 : Ext W0 w3 := Ext.trans Ew2 hx; have w3z00 := fz00 w3 Ew3; have w3z01 := fz01 w3 Ew3; have w3z02 := fz02 w3 Ew3; have w3z03 := fz03 w3 Ew3; have w3z04 := fz04 w3 Ew3; have w3z05 := fz05 w3 Ew3; have w3z10 := fz10 w3 Ew3; have w3z11 := fz11 w3 Ew3; have w3z12 := fz12 w3 Ew3; have w3z13 := fz13 w3 Ew3; have w3z14 := fz14 w3 Ew3; have w3z15 := fz15 w3 Ew3; have w3z20 := fz20 w3 Ew3; have w3z21 := fz21 w3 Ew3; have w3z30 := fz30 w3 Ew3; have w3z31 := fz31 w3 Ew3; clear hx)
    | (go_at_call 31; (with_reducible refine (CPb.out _ Ew3).mono ?_); rintro e w4 ⟨Ab, nb, cb, fb, rfl, hx⟩; have Ew4 : Ext W0 w4 := Ext.trans Ew3 hx; have w4z00 := fz00 w4 Ew4; have w4z01 := fz01 w4 Ew4; have w4z02 := fz02 w4 Ew4; have w4z03 := fz03 w4 Ew4; have w4z04 := fz04 w4 Ew4; have w4z05 := fz05 w4 Ew4; have w4z10 := fz10 w4 Ew4; have w4z11 := fz11 w4 Ew4; have w4z12 := fz12 w4 Ew4; have w4z13 := fz13 w4 Ew4; have w4z14 := fz14 w4 Ew4; have w4z15 := fz15 w4 Ew4; have w4z20 := fz20 w4 Ew4; have w4z21 := fz21 w4 Ew4; have w4z30 := fz30 w4 Ew4; have w4z31 := fz31 w4 Ew4; clear hx))
  have EW4 := Lib.hid Ew4
  clear W0z00 W0z01 W0z02 W0z03 W0z04 W0z05 W0z10 W0z11 W0z12 W0z13 W0z14 W0z15 W0z20 W0z21 W0z30 W0z31 w1z00 w1z01 w1z02 w1z03 w1z04 w1z05 w1z10 w1z11 w1z12 w1z13 w1z14 w1z15 w1z20 w1z21 w1z30 w1z31 w2z00 w2z01 w2z02 w2z03 w2z04 w2z05 w2z10 w2z11 w2z12 w2z13 w2z14 w2z15 w2z20 w2z21 w2z30 w2z31 w3z00 w3z01 w3z02 w3z03 w3z04 w3z05 w3z10 w3z11 w3z12 w3z13 w3z14 w3z15 w3z20 w3z21 w3z30 w3z31 w4z00 w4z01 w4z02 w4z03 w4z04 w4z05 w4z10 w4z11 w4z12 w4z13 w4z14 w4z15 w4z20 w4z21 w4z30 w4z31 Ew1 Ew2 Ew3 Ew4
  refine ext_begin (by kernel_rfl) ?_
  have EW4d := Lib.hid (Ext.drewR EW4.out)
  refine ext_take (i := 0) (v := ?_) rfl (by kernel_rfl) (by kernel_rfl) (by kernel_rfl) (fun _ _ _ h => h) (by rfl) ?_ ?_
  rotate_left
  · intro W hW; have hW0 := Ext.trans EW4d.out hW; clear hW; go_simp <;> with_reducible rfl
  try simp only [Act.put, List.setIfInBounds_toArray, List.set_cons_zero, List.set_cons_succ]
  refine ext_take (i := 1) (v := ?_) rfl (by kernel_rfl) (by kernel_rfl) (by kernel_rfl) (fun _ _ _ h => h) (by rfl) ?_ ?_
  rotate_left
  · intro W hW; have hW0 := Ext.trans EW4d.out hW; clear hW; go_simp <;> with_reducible rfl
  try simp only [Act.put, List.setIfInBounds_toArray, List.set_cons_zero, List.set_cons_succ]
  refine ext_take (i := 2) (v := ?_) rfl (by kernel_rfl) (by kernel_rfl) (by kernel_rfl) (fun _ _ _ h => h) (by rfl) ?_ ?_
  rotate_left
  · intro W hW; have hW0 := Ext.trans EW4d.out hW; clear hW; go_simp <;> with_reducible rfl
  try simp only [Act.put, List.setIfInBounds_toArray, List.set_cons_zero, List.set_cons_succ]
  refine ext_skip (i := 3) rfl (by kernel_rfl) (by kernel_rfl) (by kernel_rfl) (fun _ _ _ h => h) (by rfl) ?_
  try simp only [Act.put, List.setIfInBounds_toArray, List.set_cons_zero, List.set_cons_succ]
  refine ext_skip (i := 4) rfl (by kernel_rfl) (by kernel_rfl) (by kernel_rfl) (fun _ _ _ h => h) (by rfl) ?_
  try simp only [Act.put, List.setIfInBounds_toArray, List.set_cons_zero, List.set_cons_succ]
  refine ext_take (i := 5) (v := ?_) rfl (by kernel_rfl) (by kernel_rfl) (by kernel_rfl) (fun _ _ _ h => h) (by rfl) ?_ ?_
  rotate_left
  · intro W hW; have hW0 := Ext.trans EW4d.out hW; clear hW; go_simp <;> with_reducible rfl
  try simp only [Act.put, List.setIfInBounds_toArray, List.set_cons_zero, List.set_cons_succ]
  refine ext_take (i := 6) (v := ?_) rfl (by kernel_rfl) (by kernel_rfl) (by kernel_rfl) (fun _ _ _ h => h) (by rfl) ?_ ?_
  rotate_left
  · intro W hW; have hW0 := Ext.trans EW4d.out hW; clear hW; go_simp <;> with_reducible rfl
  try simp only [Act.put, List.setIfInBounds_toArray, List.set_cons_zero, List.set_cons_succ]
  refine ext_skip (i := 7) rfl (by kernel_rfl) (by kernel_rfl) (by kernel_rfl) (fun _ _ _ h => h) (by rfl) ?_
  try simp only [Act.put, List.setIfInBounds_toArray, List.set_cons_zero, List.set_cons_succ]
  refine ext_skip (i := 8) rfl (by kernel_rfl) (by kernel_rfl) (by kernel_rfl) (fun _ _ _ h => h) (by rfl) ?_
  try simp only [Act.put, List.setIfInBounds_toArray, List.set_cons_zero, List.set_cons_succ]
  refine ext_skip (i := 9) rfl (by kernel_rfl) (by kernel_rfl) (by kernel_rfl) (fun _ _ _ h => h) (by rfl) ?_
  try simp only [Act.put, List.setIfInBounds_toArray, List.set_cons_zero, List.set_cons_succ]
  refine ext_skip (i := 10) rfl (by kernel_rfl) (by kernel_rfl) (by kernel_rfl) (fun _ _ _ h => h) (by rfl) ?_
  try simp only [Act.put, List.setIfInBounds_toArray, List.set_cons_zero, List.set_cons_succ]
  refine ext_skip (i := 11) rfl (by kernel_rfl) (by kernel_rfl) (by kernel_rfl) (fun _ _ _ h => h) (by rfl) ?_
  try simp only [Act.put, List.setIfInBounds_toArray, List.set_cons_zero, List.set_cons_succ]
  refine ext_skip (i := 12) rfl (by kernel_rfl) (by kernel_rfl) (by kernel_rfl) (fun _ _ _ h => h) (by rfl) ?_
  try simp only [Act.put, List.setIfInBounds_toArray, List.set_cons_zero, List.set_cons_succ]
  refine ext_skip (i := 13) rfl (by kernel_rfl) (by kernel_rfl) (by kernel_rfl) (fun _ _ _ h => h) (by rfl) ?_
  try simp only [Act.put, List.setIfInBounds_toArray, List.set_cons_zero, List.set_cons_succ]
  refine ext_skip (i := 14) rfl (by kernel_rfl) (by kernel_rfl) (by kernel_rfl) (fun _ _ _ h => h) (by rfl) ?_
  try simp only [Act.put, List.setIfInBounds_toArray, List.set_cons_zero, List.set_cons_succ]
  refine ext_skip (i := 15) rfl (by kernel_rfl) (by kernel_rfl) (by kernel_rfl) (fun _ _ _ h => h) (by rfl) ?_
  try simp only [Act.put, List.setIfInBounds_toArray, List.set_cons_zero, List.set_cons_succ]
  refine ext_take (i := 16) (v := ?_) rfl (by kernel_rfl) (by kernel_rfl) (by kernel_rfl) (fun _ _ _ h => h) (by rfl) ?_ ?_
  rotate_left
  · intro W hW; have hW0 := Ext.trans EW4d.out hW; clear hW; go_simp <;> with_reducible rfl
  try simp only [Act.put, List.setIfInBounds_toArray, List.set_cons_zero, List.set_cons_succ]
  refine wpAnyH_done (by kernel_rfl) ?_ _
  have EX := Lib.hid EW4d.out
  clear EW4d
  have ex := EX.out
  have wd20 := fz20 _ ex
  have wd21 := fz21 _ ex
  have wd30 := fz30 _ ex
  have wd31 := fz31 _ ex
  go_wp2_with (first
    | (go_at_call 38; (with_reducible refine (CPc.out _ ex).mono ?_); rintro e w5 ⟨rfl, hx⟩; have Ew5 : Ext W0 w5 := Ext.trans ex hx; have w5z20 := fz20 w5 Ew5; have w5z21 := fz21 w5 Ew5; have w5z30 := fz30 w5 Ew5; have w5z31 := fz31 w5 Ew5; clear hx)
    | (go_at_call 38; (with_reducible refine (CPd.out _ Ew5).mono ?_); rintro e w6 ⟨Ad, nd, cd, fd, rfl, hx⟩; have Ew6 : Ext W0 w6 := Ext.trans Ew5 hx; have w6z20 := fz20 w6 Ew6; have w6z21 := fz21 w6 Ew6; have w6z30 := fz30 w6 Ew6; have w6z31 := fz31 w6 Ew6; clear hx)
    | (go_at_call 29; (with_reducible refine (HT.out _ Ew6).mono ?_); rintro e w7 ⟨rfl, hx⟩; have Ew7 : Ext W0 w7 := Ext.trans Ew6 hx; clear hx))
  try go_ret
  exact hD.out _ _ ⟨rfl, Ext.trans HX0.out Ew7⟩

set_option maxRecDepth 8000 in
set_option maxHeartbeats 16000000 in
theorem apart_0_1 (c s k i m : Int) (d : ByteArray) (c2 s2 k2 i2 m2 : Int) (d2 : ByteArray) (ep1 : Int) (A1 : Option Addr) (cap1 n1 : Nat) (ep2 : Int) (A2 : Option Addr) (cap2 n2 : Nat) (w : World) (hd : d.size ≤ 300) (hd2 : d2.size ≤ 300) (hm : mayReqB c s k i m d.size = false) (l1 l2 : List Int) (hn1 : n1 = l1.length) (hn2 : n2 = l2.length) (h1 : n1 ≤ 8) (h2 : n2 ≤ 8) (hc1 : l1.length ≤ cap1) (hc2 : l2.length ≤ cap2) (hs1 : Sl i64 w A1 l1) (hs2 : Sl i64 w A2 l2) (hmc : mayChainB ep1 l1 = true) (hmd : mayChainB ep2 l2 = false) :
    Calls Try.prog 11 #[.agg #[.int .i64 c, .int .i64 s, .int .i64 k, .int .i64 i, .int .i64 m, .string d], .agg #[.int .i64 c2, .int .i64 s2, .int .i64 k2, .int .i64 i2, .int .i64 m2, .string d2], .agg #[.int .i64 ep1, .slice A1 n1 cap1], .agg #[.int .i64 ep2, .slice A2 n2 cap2]] w fun e w' => e = .returned (.bool true) ∧ Below w.heap.size w w' := by
  refine hide_post fun D hD => ?_
  obtain ⟨W0, hW0⟩ : ∃ W0, W0 = ((((w.alloc (.cells #[.int .i64 c, .int .i64 s, .int .i64 k, .int .i64 i, .int .i64 m, .string d] 30)).alloc (.cells #[.int .i64 c2, .int .i64 s2, .int .i64 k2, .int .i64 i2, .int .i64 m2, .string d2] 30)).alloc (.cells #[.int .i64 ep1, .slice A1 n1 cap1] 39)).alloc (.cells #[.int .i64 ep2, .slice A2 n2 cap2] 39)) := ⟨_, rfl⟩
  have hx0 : Ext w W0 := by rw [hW0]; exact Ext.trans (Ext.trans (Ext.trans (Ext.alloc _ _) (Ext.alloc _ _)) (Ext.alloc _ _)) (Ext.alloc _ _)
  have kb0 : Blk W0 w.heap.size 30 #[.int .i64 c, .int .i64 s, .int .i64 k, .int .i64 i, .int .i64 m, .string d] := by rw [hW0]; exact (((Blk.new _ _ _).alloc _).alloc _).alloc _
  have fz00 : ∀ V, Ext W0 V → V.cell? ⟨w.heap.size, 0, none⟩ = some (.int .i64 c) := fun V h => (kb0.stay h).cell 0
  have fz01 : ∀ V, Ext W0 V → V.cell? ⟨w.heap.size, 1, none⟩ = some (.int .i64 s) := fun V h => (kb0.stay h).cell 1
  have fz02 : ∀ V, Ext W0 V → V.cell? ⟨w.heap.size, 2, none⟩ = some (.int .i64 k) := fun V h => (kb0.stay h).cell 2
  have fz03 : ∀ V, Ext W0 V → V.cell? ⟨w.heap.size, 3, none⟩ = some (.int .i64 i) := fun V h => (kb0.stay h).cell 3
  have fz04 : ∀ V, Ext W0 V → V.cell? ⟨w.heap.size, 4, none⟩ = some (.int .i64 m) := fun V h => (kb0.stay h).cell 4
  have fz05 : ∀ V, Ext W0 V → V.cell? ⟨w.heap.size, 5, none⟩ = some (.string d) := fun V h => (kb0.stay h).cell 5
  have kb1 : Blk W0 (w.heap.size + 1) 30 #[.int .i64 c2, .int .i64 s2, .int .i64 k2, .int .i64 i2, .int .i64 m2, .string d2] := by rw [hW0]; exact ((Blk.new' _ _ _ _ (by simp)).alloc _).alloc _
  have fz10 : ∀ V, Ext W0 V → V.cell? ⟨(w.heap.size + 1), 0, none⟩ = some (.int .i64 c2) := fun V h => (kb1.stay h).cell 0
  have fz11 : ∀ V, Ext W0 V → V.cell? ⟨(w.heap.size + 1), 1, none⟩ = some (.int .i64 s2) := fun V h => (kb1.stay h).cell 1
  have fz12 : ∀ V, Ext W0 V → V.cell? ⟨(w.heap.size + 1), 2, none⟩ = some (.int .i64 k2) := fun V h => (kb1.stay h).cell 2
  have fz13 : ∀ V, Ext W0 V → V.cell? ⟨(w.heap.size + 1), 3, none⟩ = some (.int .i64 i2) := fun V h => (kb1.stay h).cell 3
  have fz14 : ∀ V, Ext W0 V → V.cell? ⟨(w.heap.size + 1), 4, none⟩ = some (.int .i64 m2) := fun V h => (kb1.stay h).cell 4
  have fz15 : ∀ V, Ext W0 V → V.cell? ⟨(w.heap.size + 1), 5, none⟩ = some (.string d2) := fun V h => (kb1.stay h).cell 5
  have kb2 : Blk W0 (w.heap.size + 1 + 1) 39 #[.int .i64 ep1, .slice A1 n1 cap1] := by rw [hW0]; exact (Blk.new' _ _ _ _ (by simp)).alloc _
  have fz20 : ∀ V, Ext W0 V → V.cell? ⟨(w.heap.size + 1 + 1), 0, none⟩ = some (.int .i64 ep1) := fun V h => (kb2.stay h).cell 0
  have fz21 : ∀ V, Ext W0 V → V.cell? ⟨(w.heap.size + 1 + 1), 1, none⟩ = some (.slice A1 n1 cap1) := fun V h => (kb2.stay h).cell 1
  have kb3 : Blk W0 (w.heap.size + 1 + 1 + 1) 39 #[.int .i64 ep2, .slice A2 n2 cap2] := by rw [hW0]; exact Blk.new' _ _ _ _ (by simp)
  have fz30 : ∀ V, Ext W0 V → V.cell? ⟨(w.heap.size + 1 + 1 + 1), 0, none⟩ = some (.int .i64 ep2) := fun V h => (kb3.stay h).cell 0
  have fz31 : ∀ V, Ext W0 V → V.cell? ⟨(w.heap.size + 1 + 1 + 1), 1, none⟩ = some (.slice A2 n2 cap2) := fun V h => (kb3.stay h).cell 1
  have HW0 := Lib.hid hW0
  have HX0 := Lib.hid hx0
  have E0 : Hid (Ext W0 W0) := Ext.refl _
  have HT : Hid (∀ V, Ext W0 V → Calls Try.prog 29 #[] V fun e w' => e = .returned (.bool true) ∧ Ext V w') := fun V _ => told2 V
  have hdm : d.size ≤ maxLen := by unfold maxLen; omega
  have hdm2 : d2.size ≤ maxLen := by unfold maxLen; omega
  have CFa : Hid (∀ V, Ext W0 V → Calls Try.prog 28 #[.agg #[.int .i64 c, .int .i64 s, .int .i64 k, .int .i64 i, .int .i64 m, .string d]] V fun e w' => e = .returned (.bool true) ∧ Ext V w') := fun V _ => by have h := few_any c s k i m d V hdm; rw [decide_eq_true hd] at h; exact h
  have CFb : Hid (∀ V, Ext W0 V → Calls Try.prog 28 #[.agg #[.int .i64 c2, .int .i64 s2, .int .i64 k2, .int .i64 i2, .int .i64 m2, .string d2]] V fun e w' => e = .returned (.bool true) ∧ Ext V w') := fun V _ => by have h := few_any c2 s2 k2 i2 m2 d2 V hdm2; rw [decide_eq_true hd2] at h; exact h
  have CPa : Hid (∀ V, Ext W0 V → Calls Try.prog 31 #[.agg #[.int .i64 c, .int .i64 s, .int .i64 k, .int .i64 i, .int .i64 m, .string d]] V fun e w' => e = .returned (.tuple #[.slice none 0 0, .int .i64 1]) ∧ Ext V w') := fun V hV => by
    exact putReq_no c s k i m d V hdm hm
  have CPb : Hid (∀ V, Ext W0 V → Calls Try.prog 31 #[.agg #[.int .i64 c2, .int .i64 s2, .int .i64 k2, .int .i64 i2, .int .i64 m2, .string d2]] V fun e w' => ∃ A' n' c' f', e = .returned (.tuple #[.slice A' n' c', .int .i64 f']) ∧ Ext V w') := fun V hV => by
    cases hmb : mayReqB c2 s2 k2 i2 m2 d2.size with
    | false => exact (putReq_no c2 s2 k2 i2 m2 d2 V hdm2 hmb).mono fun e w' ⟨h1, h2⟩ => ⟨_, _, _, _, h1, h2⟩
    | true =>
      obtain ⟨q, hq, he⟩ := rq_of hmb
      rw [he]
      exact (putReq_yes q V hq).mono fun e w' ⟨_, _, h1, _, h2⟩ => ⟨_, _, _, _, h1, h2⟩
  obtain ⟨e7, ns7, he7, hl7⟩ := mayChainB_ints hmc
  obtain ⟨X7, hX7⟩ : ∃ L, L = putC e7 ns7 := ⟨_, rfl⟩
  obtain ⟨z7, hz7⟩ : ∃ n, n = (putC e7 ns7).length := ⟨_, rfl⟩
  have CPc : Hid (∀ V, Ext W0 V → Calls Try.prog 38 #[.agg #[.int .i64 ep1, .slice A1 n1 cap1]] V fun e w' => ∃ A' c', e = .returned (.tuple #[.slice A' z7 c', .int .i64 0]) ∧ Sl Go.Proofs.Ytdbnaflaobncgaa.u8 w' A' X7 ∧ Ext V w') := fun V hV => by
    have h := putChain_yes e7 A1 cap1 ns7 V (by rw [hl7, ints_len] at hc1; exact hc1) (by rw [← hl7]; exact hs1.stay (Ext.trans hx0 hV)) (by rw [← he7, ← hl7]; exact hmc)
    rw [he7, hn1, hl7, ints_len, hz7, hX7]
    exact h
  have CPd : Hid (∀ V, Ext W0 V → Calls Try.prog 38 #[.agg #[.int .i64 ep2, .slice A2 n2 cap2]] V fun e w' => e = .returned (.tuple #[.slice none 0 0, .int .i64 1]) ∧ Ext V w') := fun V hV => by
    rw [hn2]; exact putChain_no ep2 A2 cap2 l2 V (by omega) hc2 (hs2.stay (Ext.trans hx0 hV)) hmd
  have b1 : ¬ (8 : Int) < (n1 : Int) := by omega
  have b2 : ¬ (8 : Int) < (n2 : Int) := by omega
  clear kb0 kb1 kb2 kb3 hx0 hW0 hdm hd hdm2 hd2 hm hn1 hn2 hc1 hc2 hs1 hs2 hmc hmd he7 hl7 hX7 hz7
  go_enter Try.func11, Try.ntmps11
  go_wp2_with fail
  rw [← HW0.out]
  have e0 := E0.out
  have W0z00 := fz00 W0 E0.out; have W0z01 := fz01 W0 E0.out; have W0z02 := fz02 W0 E0.out; have W0z03 := fz03 W0 E0.out; have W0z04 := fz04 W0 E0.out; have W0z05 := fz05 W0 E0.out; have W0z10 := fz10 W0 E0.out; have W0z11 := fz11 W0 E0.out; have W0z12 := fz12 W0 E0.out; have W0z13 := fz13 W0 E0.out; have W0z14 := fz14 W0 E0.out; have W0z15 := fz15 W0 E0.out; have W0z20 := fz20 W0 E0.out; have W0z21 := fz21 W0 E0.out; have W0z30 := fz30 W0 E0.out; have W0z31 := fz31 W0 E0.out
  go_wp2_with (first
    | (go_at_call 28; (with_reducible refine (CFa.out _ e0).mono ?_); rintro e w1 ⟨rfl, hx⟩; have Ew1 : Ext W0 w1 := Ext.trans e0 hx; have w1z00 := fz00 w1 Ew1; have w1z01 := fz01 w1 Ew1; have w1z02 := fz02 w1 Ew1; have w1z03 := fz03 w1 Ew1; have w1z04 := fz04 w1 Ew1; have w1z05 := fz05 w1 Ew1; have w1z10 := fz10 w1 Ew1; have w1z11 := fz11 w1 Ew1; have w1z12 := fz12 w1 Ew1; have w1z13 := fz13 w1 Ew1; have w1z14 := fz14 w1 Ew1; have w1z15 := fz15 w1 Ew1; have w1z20 := fz20 w1 Ew1; have w1z21 := fz21 w1 Ew1; have w1z30 := fz30 w1 Ew1; have w1z31 := fz31 w1 Ew1; clear hx)
    | (go_at_call 28; (with_reducible refine (CFb.out _ Ew1).mono ?_); rintro e w2 ⟨rfl, hx⟩; have Ew2 : Ext W0 w2 := Ext.trans Ew1 hx; have w2z00 := fz00 w2 Ew2; have w2z01 := fz01 w2 Ew2; have w2z02 := fz02 w2 Ew2; have w2z03 := fz03 w2 Ew2; have w2z04 := fz04 w2 Ew2; have w2z05 := fz05 w2 Ew2; have w2z10 := fz10 w2 Ew2; have w2z11 := fz11 w2 Ew2; have w2z12 := fz12 w2 Ew2; have w2z13 := fz13 w2 Ew2; have w2z14 := fz14 w2 Ew2; have w2z15 := fz15 w2 Ew2; have w2z20 := fz20 w2 Ew2; have w2z21 := fz21 w2 Ew2; have w2z30 := fz30 w2 Ew2; have w2z31 := fz31 w2 Ew2; clear hx)
    | (go_at_call 31; (with_reducible refine (CPa.out _ Ew2).mono ?_); rintro e w3 ⟨rfl, hx⟩; have Ew3 : Ext W0 w3 := Ext.trans Ew2 hx; have w3z00 := fz00 w3 Ew3; have w3z01 := fz01 w3 Ew3; have w3z02 := fz02 w3 Ew3; have w3z03 := fz03 w3 Ew3; have w3z04 := fz04 w3 Ew3; have w3z05 := fz05 w3 Ew3; have w3z10 := fz10 w3 Ew3; have w3z11 := fz11 w3 Ew3; have w3z12 := fz12 w3 Ew3; have w3z13 := fz13 w3 Ew3; have w3z14 := fz14 w3 Ew3; have w3z15 := fz15 w3 Ew3; have w3z20 := fz20 w3 Ew3; have w3z21 := fz21 w3 Ew3; have w3z30 := fz30 w3 Ew3; have w3z31 := fz31 w3 Ew3; clear hx)
    | (go_at_call 31; (with_reducible refine (CPb.out _ Ew3).mono ?_); rintro e w4 ⟨Ab, nb, cb, fb, rfl, hx⟩; have Ew4 : Ext W0 w4 := Ext.trans Ew3 hx; have w4z00 := fz00 w4 Ew4; have w4z01 := fz01 w4 Ew4; have w4z02 := fz02 w4 Ew4; have w4z03 := fz03 w4 Ew4; have w4z04 := fz04 w4 Ew4; have w4z05 := fz05 w4 Ew4; have w4z10 := fz10 w4 Ew4; have w4z11 := fz11 w4 Ew4; have w4z12 := fz12 w4 Ew4; have w4z13 := fz13 w4 Ew4; have w4z14 := fz14 w4 Ew4; have w4z15 := fz15 w4 Ew4; have w4z20 := fz20 w4 Ew4; have w4z21 := fz21 w4 Ew4; have w4z30 := fz30 w4 Ew4; have w4z31 := fz31 w4 Ew4; clear hx))
  have EW4 := Lib.hid Ew4
  clear W0z00 W0z01 W0z02 W0z03 W0z04 W0z05 W0z10 W0z11 W0z12 W0z13 W0z14 W0z15 W0z20 W0z21 W0z30 W0z31 w1z00 w1z01 w1z02 w1z03 w1z04 w1z05 w1z10 w1z11 w1z12 w1z13 w1z14 w1z15 w1z20 w1z21 w1z30 w1z31 w2z00 w2z01 w2z02 w2z03 w2z04 w2z05 w2z10 w2z11 w2z12 w2z13 w2z14 w2z15 w2z20 w2z21 w2z30 w2z31 w3z00 w3z01 w3z02 w3z03 w3z04 w3z05 w3z10 w3z11 w3z12 w3z13 w3z14 w3z15 w3z20 w3z21 w3z30 w3z31 w4z00 w4z01 w4z02 w4z03 w4z04 w4z05 w4z10 w4z11 w4z12 w4z13 w4z14 w4z15 w4z20 w4z21 w4z30 w4z31 Ew1 Ew2 Ew3 Ew4
  refine ext_begin (by kernel_rfl) ?_
  have EW4d := Lib.hid (Ext.drewR EW4.out)
  refine ext_take (i := 0) (v := ?_) rfl (by kernel_rfl) (by kernel_rfl) (by kernel_rfl) (fun _ _ _ h => h) (by rfl) ?_ ?_
  rotate_left
  · intro W hW; have hW0 := Ext.trans EW4d.out hW; clear hW; go_simp <;> with_reducible rfl
  try simp only [Act.put, List.setIfInBounds_toArray, List.set_cons_zero, List.set_cons_succ]
  refine ext_take (i := 1) (v := ?_) rfl (by kernel_rfl) (by kernel_rfl) (by kernel_rfl) (fun _ _ _ h => h) (by rfl) ?_ ?_
  rotate_left
  · intro W hW; have hW0 := Ext.trans EW4d.out hW; clear hW; go_simp <;> with_reducible rfl
  try simp only [Act.put, List.setIfInBounds_toArray, List.set_cons_zero, List.set_cons_succ]
  refine ext_take (i := 2) (v := ?_) rfl (by kernel_rfl) (by kernel_rfl) (by kernel_rfl) (fun _ _ _ h => h) (by rfl) ?_ ?_
  rotate_left
  · intro W hW; have hW0 := Ext.trans EW4d.out hW; clear hW; go_simp <;> with_reducible rfl
  try simp only [Act.put, List.setIfInBounds_toArray, List.set_cons_zero, List.set_cons_succ]
  refine ext_skip (i := 3) rfl (by kernel_rfl) (by kernel_rfl) (by kernel_rfl) (fun _ _ _ h => h) (by rfl) ?_
  try simp only [Act.put, List.setIfInBounds_toArray, List.set_cons_zero, List.set_cons_succ]
  refine ext_skip (i := 4) rfl (by kernel_rfl) (by kernel_rfl) (by kernel_rfl) (fun _ _ _ h => h) (by rfl) ?_
  try simp only [Act.put, List.setIfInBounds_toArray, List.set_cons_zero, List.set_cons_succ]
  refine ext_take (i := 5) (v := ?_) rfl (by kernel_rfl) (by kernel_rfl) (by kernel_rfl) (fun _ _ _ h => h) (by rfl) ?_ ?_
  rotate_left
  · intro W hW; have hW0 := Ext.trans EW4d.out hW; clear hW; go_simp <;> with_reducible rfl
  try simp only [Act.put, List.setIfInBounds_toArray, List.set_cons_zero, List.set_cons_succ]
  refine ext_take (i := 6) (v := ?_) rfl (by kernel_rfl) (by kernel_rfl) (by kernel_rfl) (fun _ _ _ h => h) (by rfl) ?_ ?_
  rotate_left
  · intro W hW; have hW0 := Ext.trans EW4d.out hW; clear hW; go_simp <;> with_reducible rfl
  try simp only [Act.put, List.setIfInBounds_toArray, List.set_cons_zero, List.set_cons_succ]
  refine ext_skip (i := 7) rfl (by kernel_rfl) (by kernel_rfl) (by kernel_rfl) (fun _ _ _ h => h) (by rfl) ?_
  try simp only [Act.put, List.setIfInBounds_toArray, List.set_cons_zero, List.set_cons_succ]
  refine ext_skip (i := 8) rfl (by kernel_rfl) (by kernel_rfl) (by kernel_rfl) (fun _ _ _ h => h) (by rfl) ?_
  try simp only [Act.put, List.setIfInBounds_toArray, List.set_cons_zero, List.set_cons_succ]
  refine ext_skip (i := 9) rfl (by kernel_rfl) (by kernel_rfl) (by kernel_rfl) (fun _ _ _ h => h) (by rfl) ?_
  try simp only [Act.put, List.setIfInBounds_toArray, List.set_cons_zero, List.set_cons_succ]
  refine ext_skip (i := 10) rfl (by kernel_rfl) (by kernel_rfl) (by kernel_rfl) (fun _ _ _ h => h) (by rfl) ?_
  try simp only [Act.put, List.setIfInBounds_toArray, List.set_cons_zero, List.set_cons_succ]
  refine ext_skip (i := 11) rfl (by kernel_rfl) (by kernel_rfl) (by kernel_rfl) (fun _ _ _ h => h) (by rfl) ?_
  try simp only [Act.put, List.setIfInBounds_toArray, List.set_cons_zero, List.set_cons_succ]
  refine ext_skip (i := 12) rfl (by kernel_rfl) (by kernel_rfl) (by kernel_rfl) (fun _ _ _ h => h) (by rfl) ?_
  try simp only [Act.put, List.setIfInBounds_toArray, List.set_cons_zero, List.set_cons_succ]
  refine ext_skip (i := 13) rfl (by kernel_rfl) (by kernel_rfl) (by kernel_rfl) (fun _ _ _ h => h) (by rfl) ?_
  try simp only [Act.put, List.setIfInBounds_toArray, List.set_cons_zero, List.set_cons_succ]
  refine ext_skip (i := 14) rfl (by kernel_rfl) (by kernel_rfl) (by kernel_rfl) (fun _ _ _ h => h) (by rfl) ?_
  try simp only [Act.put, List.setIfInBounds_toArray, List.set_cons_zero, List.set_cons_succ]
  refine ext_skip (i := 15) rfl (by kernel_rfl) (by kernel_rfl) (by kernel_rfl) (fun _ _ _ h => h) (by rfl) ?_
  try simp only [Act.put, List.setIfInBounds_toArray, List.set_cons_zero, List.set_cons_succ]
  refine ext_take (i := 16) (v := ?_) rfl (by kernel_rfl) (by kernel_rfl) (by kernel_rfl) (fun _ _ _ h => h) (by rfl) ?_ ?_
  rotate_left
  · intro W hW; have hW0 := Ext.trans EW4d.out hW; clear hW; go_simp <;> with_reducible rfl
  try simp only [Act.put, List.setIfInBounds_toArray, List.set_cons_zero, List.set_cons_succ]
  refine wpAnyH_done (by kernel_rfl) ?_ _
  have EX := Lib.hid EW4d.out
  clear EW4d
  have ex := EX.out
  have wd20 := fz20 _ ex
  have wd21 := fz21 _ ex
  have wd30 := fz30 _ ex
  have wd31 := fz31 _ ex
  go_wp2_with (first
    | (go_at_call 38; (with_reducible refine (CPc.out _ ex).mono ?_); rintro e w5 ⟨Ac, cc, rfl, hsx, hx⟩; have Ew5 : Ext W0 w5 := Ext.trans ex hx; have w5z20 := fz20 w5 Ew5; have w5z21 := fz21 w5 Ew5; have w5z30 := fz30 w5 Ew5; have w5z31 := fz31 w5 Ew5; have HSc := Lib.hid hsx; clear hsx; clear hx)
    | (go_at_call 38; (with_reducible refine (CPd.out _ Ew5).mono ?_); rintro e w6 ⟨rfl, hx⟩; have Ew6 : Ext W0 w6 := Ext.trans Ew5 hx; have w6z20 := fz20 w6 Ew6; have w6z21 := fz21 w6 Ew6; have w6z30 := fz30 w6 Ew6; have w6z31 := fz31 w6 Ew6; clear hx)
    | (go_at_call 29; (with_reducible refine (HT.out _ Ew6).mono ?_); rintro e w7 ⟨rfl, hx⟩; have Ew7 : Ext W0 w7 := Ext.trans Ew6 hx; clear hx))
  try go_ret
  exact hD.out _ _ ⟨rfl, Ext.trans HX0.out Ew7⟩

set_option maxRecDepth 8000 in
set_option maxHeartbeats 16000000 in
theorem apart_0_2 (c s k i m : Int) (d : ByteArray) (c2 s2 k2 i2 m2 : Int) (d2 : ByteArray) (ep1 : Int) (A1 : Option Addr) (cap1 n1 : Nat) (ep2 : Int) (A2 : Option Addr) (cap2 n2 : Nat) (w : World) (hd : d.size ≤ 300) (hd2 : d2.size ≤ 300) (hm : mayReqB c s k i m d.size = false) (l1 l2 : List Int) (hn1 : n1 = l1.length) (hn2 : n2 = l2.length) (h1 : n1 ≤ 8) (h2 : n2 ≤ 8) (hc1 : l1.length ≤ cap1) (hc2 : l2.length ≤ cap2) (hs1 : Sl i64 w A1 l1) (hs2 : Sl i64 w A2 l2) (hmc : mayChainB ep1 l1 = true) (hmd : mayChainB ep2 l2 = true) :
    Calls Try.prog 11 #[.agg #[.int .i64 c, .int .i64 s, .int .i64 k, .int .i64 i, .int .i64 m, .string d], .agg #[.int .i64 c2, .int .i64 s2, .int .i64 k2, .int .i64 i2, .int .i64 m2, .string d2], .agg #[.int .i64 ep1, .slice A1 n1 cap1], .agg #[.int .i64 ep2, .slice A2 n2 cap2]] w fun e w' => e = .returned (.bool true) ∧ Below w.heap.size w w' := by
  refine hide_post fun D hD => ?_
  obtain ⟨W0, hW0⟩ : ∃ W0, W0 = ((((w.alloc (.cells #[.int .i64 c, .int .i64 s, .int .i64 k, .int .i64 i, .int .i64 m, .string d] 30)).alloc (.cells #[.int .i64 c2, .int .i64 s2, .int .i64 k2, .int .i64 i2, .int .i64 m2, .string d2] 30)).alloc (.cells #[.int .i64 ep1, .slice A1 n1 cap1] 39)).alloc (.cells #[.int .i64 ep2, .slice A2 n2 cap2] 39)) := ⟨_, rfl⟩
  have hx0 : Ext w W0 := by rw [hW0]; exact Ext.trans (Ext.trans (Ext.trans (Ext.alloc _ _) (Ext.alloc _ _)) (Ext.alloc _ _)) (Ext.alloc _ _)
  have kb0 : Blk W0 w.heap.size 30 #[.int .i64 c, .int .i64 s, .int .i64 k, .int .i64 i, .int .i64 m, .string d] := by rw [hW0]; exact (((Blk.new _ _ _).alloc _).alloc _).alloc _
  have fz00 : ∀ V, Ext W0 V → V.cell? ⟨w.heap.size, 0, none⟩ = some (.int .i64 c) := fun V h => (kb0.stay h).cell 0
  have fz01 : ∀ V, Ext W0 V → V.cell? ⟨w.heap.size, 1, none⟩ = some (.int .i64 s) := fun V h => (kb0.stay h).cell 1
  have fz02 : ∀ V, Ext W0 V → V.cell? ⟨w.heap.size, 2, none⟩ = some (.int .i64 k) := fun V h => (kb0.stay h).cell 2
  have fz03 : ∀ V, Ext W0 V → V.cell? ⟨w.heap.size, 3, none⟩ = some (.int .i64 i) := fun V h => (kb0.stay h).cell 3
  have fz04 : ∀ V, Ext W0 V → V.cell? ⟨w.heap.size, 4, none⟩ = some (.int .i64 m) := fun V h => (kb0.stay h).cell 4
  have fz05 : ∀ V, Ext W0 V → V.cell? ⟨w.heap.size, 5, none⟩ = some (.string d) := fun V h => (kb0.stay h).cell 5
  have kb1 : Blk W0 (w.heap.size + 1) 30 #[.int .i64 c2, .int .i64 s2, .int .i64 k2, .int .i64 i2, .int .i64 m2, .string d2] := by rw [hW0]; exact ((Blk.new' _ _ _ _ (by simp)).alloc _).alloc _
  have fz10 : ∀ V, Ext W0 V → V.cell? ⟨(w.heap.size + 1), 0, none⟩ = some (.int .i64 c2) := fun V h => (kb1.stay h).cell 0
  have fz11 : ∀ V, Ext W0 V → V.cell? ⟨(w.heap.size + 1), 1, none⟩ = some (.int .i64 s2) := fun V h => (kb1.stay h).cell 1
  have fz12 : ∀ V, Ext W0 V → V.cell? ⟨(w.heap.size + 1), 2, none⟩ = some (.int .i64 k2) := fun V h => (kb1.stay h).cell 2
  have fz13 : ∀ V, Ext W0 V → V.cell? ⟨(w.heap.size + 1), 3, none⟩ = some (.int .i64 i2) := fun V h => (kb1.stay h).cell 3
  have fz14 : ∀ V, Ext W0 V → V.cell? ⟨(w.heap.size + 1), 4, none⟩ = some (.int .i64 m2) := fun V h => (kb1.stay h).cell 4
  have fz15 : ∀ V, Ext W0 V → V.cell? ⟨(w.heap.size + 1), 5, none⟩ = some (.string d2) := fun V h => (kb1.stay h).cell 5
  have kb2 : Blk W0 (w.heap.size + 1 + 1) 39 #[.int .i64 ep1, .slice A1 n1 cap1] := by rw [hW0]; exact (Blk.new' _ _ _ _ (by simp)).alloc _
  have fz20 : ∀ V, Ext W0 V → V.cell? ⟨(w.heap.size + 1 + 1), 0, none⟩ = some (.int .i64 ep1) := fun V h => (kb2.stay h).cell 0
  have fz21 : ∀ V, Ext W0 V → V.cell? ⟨(w.heap.size + 1 + 1), 1, none⟩ = some (.slice A1 n1 cap1) := fun V h => (kb2.stay h).cell 1
  have kb3 : Blk W0 (w.heap.size + 1 + 1 + 1) 39 #[.int .i64 ep2, .slice A2 n2 cap2] := by rw [hW0]; exact Blk.new' _ _ _ _ (by simp)
  have fz30 : ∀ V, Ext W0 V → V.cell? ⟨(w.heap.size + 1 + 1 + 1), 0, none⟩ = some (.int .i64 ep2) := fun V h => (kb3.stay h).cell 0
  have fz31 : ∀ V, Ext W0 V → V.cell? ⟨(w.heap.size + 1 + 1 + 1), 1, none⟩ = some (.slice A2 n2 cap2) := fun V h => (kb3.stay h).cell 1
  have HW0 := Lib.hid hW0
  have HX0 := Lib.hid hx0
  have E0 : Hid (Ext W0 W0) := Ext.refl _
  have HT : Hid (∀ V, Ext W0 V → Calls Try.prog 29 #[] V fun e w' => e = .returned (.bool true) ∧ Ext V w') := fun V _ => told2 V
  have hdm : d.size ≤ maxLen := by unfold maxLen; omega
  have hdm2 : d2.size ≤ maxLen := by unfold maxLen; omega
  have CFa : Hid (∀ V, Ext W0 V → Calls Try.prog 28 #[.agg #[.int .i64 c, .int .i64 s, .int .i64 k, .int .i64 i, .int .i64 m, .string d]] V fun e w' => e = .returned (.bool true) ∧ Ext V w') := fun V _ => by have h := few_any c s k i m d V hdm; rw [decide_eq_true hd] at h; exact h
  have CFb : Hid (∀ V, Ext W0 V → Calls Try.prog 28 #[.agg #[.int .i64 c2, .int .i64 s2, .int .i64 k2, .int .i64 i2, .int .i64 m2, .string d2]] V fun e w' => e = .returned (.bool true) ∧ Ext V w') := fun V _ => by have h := few_any c2 s2 k2 i2 m2 d2 V hdm2; rw [decide_eq_true hd2] at h; exact h
  have CPa : Hid (∀ V, Ext W0 V → Calls Try.prog 31 #[.agg #[.int .i64 c, .int .i64 s, .int .i64 k, .int .i64 i, .int .i64 m, .string d]] V fun e w' => e = .returned (.tuple #[.slice none 0 0, .int .i64 1]) ∧ Ext V w') := fun V hV => by
    exact putReq_no c s k i m d V hdm hm
  have CPb : Hid (∀ V, Ext W0 V → Calls Try.prog 31 #[.agg #[.int .i64 c2, .int .i64 s2, .int .i64 k2, .int .i64 i2, .int .i64 m2, .string d2]] V fun e w' => ∃ A' n' c' f', e = .returned (.tuple #[.slice A' n' c', .int .i64 f']) ∧ Ext V w') := fun V hV => by
    cases hmb : mayReqB c2 s2 k2 i2 m2 d2.size with
    | false => exact (putReq_no c2 s2 k2 i2 m2 d2 V hdm2 hmb).mono fun e w' ⟨h1, h2⟩ => ⟨_, _, _, _, h1, h2⟩
    | true =>
      obtain ⟨q, hq, he⟩ := rq_of hmb
      rw [he]
      exact (putReq_yes q V hq).mono fun e w' ⟨_, _, h1, _, h2⟩ => ⟨_, _, _, _, h1, h2⟩
  obtain ⟨e7, ns7, he7, hl7⟩ := mayChainB_ints hmc
  obtain ⟨X7, hX7⟩ : ∃ L, L = putC e7 ns7 := ⟨_, rfl⟩
  obtain ⟨z7, hz7⟩ : ∃ n, n = (putC e7 ns7).length := ⟨_, rfl⟩
  have CPc : Hid (∀ V, Ext W0 V → Calls Try.prog 38 #[.agg #[.int .i64 ep1, .slice A1 n1 cap1]] V fun e w' => ∃ A' c', e = .returned (.tuple #[.slice A' z7 c', .int .i64 0]) ∧ Sl Go.Proofs.Ytdbnaflaobncgaa.u8 w' A' X7 ∧ Ext V w') := fun V hV => by
    have h := putChain_yes e7 A1 cap1 ns7 V (by rw [hl7, ints_len] at hc1; exact hc1) (by rw [← hl7]; exact hs1.stay (Ext.trans hx0 hV)) (by rw [← he7, ← hl7]; exact hmc)
    rw [he7, hn1, hl7, ints_len, hz7, hX7]
    exact h
  obtain ⟨e8, ns8, he8, hl8⟩ := mayChainB_ints hmd
  obtain ⟨X8, hX8⟩ : ∃ L, L = putC e8 ns8 := ⟨_, rfl⟩
  obtain ⟨z8, hz8⟩ : ∃ n, n = (putC e8 ns8).length := ⟨_, rfl⟩
  have CPd : Hid (∀ V, Ext W0 V → Calls Try.prog 38 #[.agg #[.int .i64 ep2, .slice A2 n2 cap2]] V fun e w' => ∃ A' c', e = .returned (.tuple #[.slice A' z8 c', .int .i64 0]) ∧ Sl Go.Proofs.Ytdbnaflaobncgaa.u8 w' A' X8 ∧ Ext V w') := fun V hV => by
    have h := putChain_yes e8 A2 cap2 ns8 V (by rw [hl8, ints_len] at hc2; exact hc2) (by rw [← hl8]; exact hs2.stay (Ext.trans hx0 hV)) (by rw [← he8, ← hl8]; exact hmd)
    rw [he8, hn2, hl8, ints_len, hz8, hX8]
    exact h
  obtain ⟨sc, hsc⟩ : ∃ z, z = str X7 := ⟨_, rfl⟩
  obtain ⟨sd, hsd⟩ : ∃ z, z = str X8 := ⟨_, rfl⟩
  have HVC : Hid (∀ V A' c', Sl Go.Proofs.Ytdbnaflaobncgaa.u8 V A' X7 → ∀ W, Ext V W → (convert 54 9 (.slice A' z7 c')).run Try.prog W = .ok (.string sc) W) := fun V A' c' h W hW => by
    have := run_str (P := Try.prog) (w := W) 54 9 5 A' X7 c' Try.underlying54 Try.underlying5 Try.underlying9 (h.stay hW)
    rw [hz7, hsc, ← hX7]
    exact this
  have HVD : Hid (∀ V A' c', Sl Go.Proofs.Ytdbnaflaobncgaa.u8 V A' X8 → ∀ W, Ext V W → (convert 54 9 (.slice A' z8 c')).run Try.prog W = .ok (.string sd) W) := fun V A' c' h W hW => by
    have := run_str (P := Try.prog) (w := W) 54 9 5 A' X8 c' Try.underlying54 Try.underlying5 Try.underlying9 (h.stay hW)
    rw [hz8, hsd, ← hX8]
    exact this
  have HSS : Hid (sc = sd ↔ (ep1 = ep2 ∧ l1 = l2)) := by
    show _ ↔ _
    constructor
    · intro e
      have e2 : X7 = X8 := by rw [hsc, hsd] at e; exact str_inj e
      rw [hX7, hX8] at e2
      obtain ⟨g1, g2, _⟩ := putC_inj (r := []) (r' := []) (by rw [← he7, ← hl7]; exact hmc) (by rw [← he8, ← hl8]; exact hmd) (by rw [e2])
      exact ⟨by rw [he7, he8, g1], by rw [hl7, hl8, g2]⟩
    · rintro ⟨g1, g2⟩
      have g3 : e7 = e8 := by rw [he7, he8] at g1; omega
      have g4 : ns7 = ns8 := by rw [hl7, hl8] at g2; exact ints_inj g2
      rw [hsc, hsd, hX7, hX8, g3, g4]
  have HL1 : Hid (n1 = l1.length) := hn1
  have HL2 : Hid (n2 = l2.length) := hn2
  have HSC : Hid (∀ V, Ext W0 V → Sl i64 V A1 l1) := fun V hV => hs1.stay (Ext.trans hx0 hV)
  have HSD : Hid (∀ V, Ext W0 V → Sl i64 V A2 l2) := fun V hV => hs2.stay (Ext.trans hx0 hV)
  have b1 : ¬ (8 : Int) < (n1 : Int) := by omega
  have b2 : ¬ (8 : Int) < (n2 : Int) := by omega
  clear kb0 kb1 kb2 kb3 hx0 hW0 hdm hd hdm2 hd2 hm hn1 hn2 hc1 hc2 hs1 hs2 hmc hmd he7 hl7 hX7 hz7 he8 hl8 hX8 hz8 hsc hsd
  go_enter Try.func11, Try.ntmps11
  go_wp2_with fail
  rw [← HW0.out]
  have e0 := E0.out
  have W0z00 := fz00 W0 E0.out; have W0z01 := fz01 W0 E0.out; have W0z02 := fz02 W0 E0.out; have W0z03 := fz03 W0 E0.out; have W0z04 := fz04 W0 E0.out; have W0z05 := fz05 W0 E0.out; have W0z10 := fz10 W0 E0.out; have W0z11 := fz11 W0 E0.out; have W0z12 := fz12 W0 E0.out; have W0z13 := fz13 W0 E0.out; have W0z14 := fz14 W0 E0.out; have W0z15 := fz15 W0 E0.out; have W0z20 := fz20 W0 E0.out; have W0z21 := fz21 W0 E0.out; have W0z30 := fz30 W0 E0.out; have W0z31 := fz31 W0 E0.out
  go_wp2_with (first
    | (go_at_call 28; (with_reducible refine (CFa.out _ e0).mono ?_); rintro e w1 ⟨rfl, hx⟩; have Ew1 : Ext W0 w1 := Ext.trans e0 hx; have w1z00 := fz00 w1 Ew1; have w1z01 := fz01 w1 Ew1; have w1z02 := fz02 w1 Ew1; have w1z03 := fz03 w1 Ew1; have w1z04 := fz04 w1 Ew1; have w1z05 := fz05 w1 Ew1; have w1z10 := fz10 w1 Ew1; have w1z11 := fz11 w1 Ew1; have w1z12 := fz12 w1 Ew1; have w1z13 := fz13 w1 Ew1; have w1z14 := fz14 w1 Ew1; have w1z15 := fz15 w1 Ew1; have w1z20 := fz20 w1 Ew1; have w1z21 := fz21 w1 Ew1; have w1z30 := fz30 w1 Ew1; have w1z31 := fz31 w1 Ew1; clear hx)
    | (go_at_call 28; (with_reducible refine (CFb.out _ Ew1).mono ?_); rintro e w2 ⟨rfl, hx⟩; have Ew2 : Ext W0 w2 := Ext.trans Ew1 hx; have w2z00 := fz00 w2 Ew2; have w2z01 := fz01 w2 Ew2; have w2z02 := fz02 w2 Ew2; have w2z03 := fz03 w2 Ew2; have w2z04 := fz04 w2 Ew2; have w2z05 := fz05 w2 Ew2; have w2z10 := fz10 w2 Ew2; have w2z11 := fz11 w2 Ew2; have w2z12 := fz12 w2 Ew2; have w2z13 := fz13 w2 Ew2; have w2z14 := fz14 w2 Ew2; have w2z15 := fz15 w2 Ew2; have w2z20 := fz20 w2 Ew2; have w2z21 := fz21 w2 Ew2; have w2z30 := fz30 w2 Ew2; have w2z31 := fz31 w2 Ew2; clear hx)
    | (go_at_call 31; (with_reducible refine (CPa.out _ Ew2).mono ?_); rintro e w3 ⟨rfl, hx⟩; have Ew3 : Ext W0 w3 := Ext.trans Ew2 hx; have w3z00 := fz00 w3 Ew3; have w3z01 := fz01 w3 Ew3; have w3z02 := fz02 w3 Ew3; have w3z03 := fz03 w3 Ew3; have w3z04 := fz04 w3 Ew3; have w3z05 := fz05 w3 Ew3; have w3z10 := fz10 w3 Ew3; have w3z11 := fz11 w3 Ew3; have w3z12 := fz12 w3 Ew3; have w3z13 := fz13 w3 Ew3; have w3z14 := fz14 w3 Ew3; have w3z15 := fz15 w3 Ew3; have w3z20 := fz20 w3 Ew3; have w3z21 := fz21 w3 Ew3; have w3z30 := fz30 w3 Ew3; have w3z31 := fz31 w3 Ew3; clear hx)
    | (go_at_call 31; (with_reducible refine (CPb.out _ Ew3).mono ?_); rintro e w4 ⟨Ab, nb, cb, fb, rfl, hx⟩; have Ew4 : Ext W0 w4 := Ext.trans Ew3 hx; have w4z00 := fz00 w4 Ew4; have w4z01 := fz01 w4 Ew4; have w4z02 := fz02 w4 Ew4; have w4z03 := fz03 w4 Ew4; have w4z04 := fz04 w4 Ew4; have w4z05 := fz05 w4 Ew4; have w4z10 := fz10 w4 Ew4; have w4z11 := fz11 w4 Ew4; have w4z12 := fz12 w4 Ew4; have w4z13 := fz13 w4 Ew4; have w4z14 := fz14 w4 Ew4; have w4z15 := fz15 w4 Ew4; have w4z20 := fz20 w4 Ew4; have w4z21 := fz21 w4 Ew4; have w4z30 := fz30 w4 Ew4; have w4z31 := fz31 w4 Ew4; clear hx))
  have EW4 := Lib.hid Ew4
  clear W0z00 W0z01 W0z02 W0z03 W0z04 W0z05 W0z10 W0z11 W0z12 W0z13 W0z14 W0z15 W0z20 W0z21 W0z30 W0z31 w1z00 w1z01 w1z02 w1z03 w1z04 w1z05 w1z10 w1z11 w1z12 w1z13 w1z14 w1z15 w1z20 w1z21 w1z30 w1z31 w2z00 w2z01 w2z02 w2z03 w2z04 w2z05 w2z10 w2z11 w2z12 w2z13 w2z14 w2z15 w2z20 w2z21 w2z30 w2z31 w3z00 w3z01 w3z02 w3z03 w3z04 w3z05 w3z10 w3z11 w3z12 w3z13 w3z14 w3z15 w3z20 w3z21 w3z30 w3z31 w4z00 w4z01 w4z02 w4z03 w4z04 w4z05 w4z10 w4z11 w4z12 w4z13 w4z14 w4z15 w4z20 w4z21 w4z30 w4z31 Ew1 Ew2 Ew3 Ew4
  refine ext_begin (by kernel_rfl) ?_
  have EW4d := Lib.hid (Ext.drewR EW4.out)
  refine ext_take (i := 0) (v := ?_) rfl (by kernel_rfl) (by kernel_rfl) (by kernel_rfl) (fun _ _ _ h => h) (by rfl) ?_ ?_
  rotate_left
  · intro W hW; have hW0 := Ext.trans EW4d.out hW; clear hW; go_simp <;> with_reducible rfl
  try simp only [Act.put, List.setIfInBounds_toArray, List.set_cons_zero, List.set_cons_succ]
  refine ext_take (i := 1) (v := ?_) rfl (by kernel_rfl) (by kernel_rfl) (by kernel_rfl) (fun _ _ _ h => h) (by rfl) ?_ ?_
  rotate_left
  · intro W hW; have hW0 := Ext.trans EW4d.out hW; clear hW; go_simp <;> with_reducible rfl
  try simp only [Act.put, List.setIfInBounds_toArray, List.set_cons_zero, List.set_cons_succ]
  refine ext_take (i := 2) (v := ?_) rfl (by kernel_rfl) (by kernel_rfl) (by kernel_rfl) (fun _ _ _ h => h) (by rfl) ?_ ?_
  rotate_left
  · intro W hW; have hW0 := Ext.trans EW4d.out hW; clear hW; go_simp <;> with_reducible rfl
  try simp only [Act.put, List.setIfInBounds_toArray, List.set_cons_zero, List.set_cons_succ]
  refine ext_skip (i := 3) rfl (by kernel_rfl) (by kernel_rfl) (by kernel_rfl) (fun _ _ _ h => h) (by rfl) ?_
  try simp only [Act.put, List.setIfInBounds_toArray, List.set_cons_zero, List.set_cons_succ]
  refine ext_skip (i := 4) rfl (by kernel_rfl) (by kernel_rfl) (by kernel_rfl) (fun _ _ _ h => h) (by rfl) ?_
  try simp only [Act.put, List.setIfInBounds_toArray, List.set_cons_zero, List.set_cons_succ]
  refine ext_take (i := 5) (v := ?_) rfl (by kernel_rfl) (by kernel_rfl) (by kernel_rfl) (fun _ _ _ h => h) (by rfl) ?_ ?_
  rotate_left
  · intro W hW; have hW0 := Ext.trans EW4d.out hW; clear hW; go_simp <;> with_reducible rfl
  try simp only [Act.put, List.setIfInBounds_toArray, List.set_cons_zero, List.set_cons_succ]
  refine ext_take (i := 6) (v := ?_) rfl (by kernel_rfl) (by kernel_rfl) (by kernel_rfl) (fun _ _ _ h => h) (by rfl) ?_ ?_
  rotate_left
  · intro W hW; have hW0 := Ext.trans EW4d.out hW; clear hW; go_simp <;> with_reducible rfl
  try simp only [Act.put, List.setIfInBounds_toArray, List.set_cons_zero, List.set_cons_succ]
  refine ext_skip (i := 7) rfl (by kernel_rfl) (by kernel_rfl) (by kernel_rfl) (fun _ _ _ h => h) (by rfl) ?_
  try simp only [Act.put, List.setIfInBounds_toArray, List.set_cons_zero, List.set_cons_succ]
  refine ext_skip (i := 8) rfl (by kernel_rfl) (by kernel_rfl) (by kernel_rfl) (fun _ _ _ h => h) (by rfl) ?_
  try simp only [Act.put, List.setIfInBounds_toArray, List.set_cons_zero, List.set_cons_succ]
  refine ext_skip (i := 9) rfl (by kernel_rfl) (by kernel_rfl) (by kernel_rfl) (fun _ _ _ h => h) (by rfl) ?_
  try simp only [Act.put, List.setIfInBounds_toArray, List.set_cons_zero, List.set_cons_succ]
  refine ext_skip (i := 10) rfl (by kernel_rfl) (by kernel_rfl) (by kernel_rfl) (fun _ _ _ h => h) (by rfl) ?_
  try simp only [Act.put, List.setIfInBounds_toArray, List.set_cons_zero, List.set_cons_succ]
  refine ext_skip (i := 11) rfl (by kernel_rfl) (by kernel_rfl) (by kernel_rfl) (fun _ _ _ h => h) (by rfl) ?_
  try simp only [Act.put, List.setIfInBounds_toArray, List.set_cons_zero, List.set_cons_succ]
  refine ext_skip (i := 12) rfl (by kernel_rfl) (by kernel_rfl) (by kernel_rfl) (fun _ _ _ h => h) (by rfl) ?_
  try simp only [Act.put, List.setIfInBounds_toArray, List.set_cons_zero, List.set_cons_succ]
  refine ext_skip (i := 13) rfl (by kernel_rfl) (by kernel_rfl) (by kernel_rfl) (fun _ _ _ h => h) (by rfl) ?_
  try simp only [Act.put, List.setIfInBounds_toArray, List.set_cons_zero, List.set_cons_succ]
  refine ext_skip (i := 14) rfl (by kernel_rfl) (by kernel_rfl) (by kernel_rfl) (fun _ _ _ h => h) (by rfl) ?_
  try simp only [Act.put, List.setIfInBounds_toArray, List.set_cons_zero, List.set_cons_succ]
  refine ext_skip (i := 15) rfl (by kernel_rfl) (by kernel_rfl) (by kernel_rfl) (fun _ _ _ h => h) (by rfl) ?_
  try simp only [Act.put, List.setIfInBounds_toArray, List.set_cons_zero, List.set_cons_succ]
  refine ext_take (i := 16) (v := ?_) rfl (by kernel_rfl) (by kernel_rfl) (by kernel_rfl) (fun _ _ _ h => h) (by rfl) ?_ ?_
  rotate_left
  · intro W hW; have hW0 := Ext.trans EW4d.out hW; clear hW; go_simp <;> with_reducible rfl
  try simp only [Act.put, List.setIfInBounds_toArray, List.set_cons_zero, List.set_cons_succ]
  refine wpAnyH_done (by kernel_rfl) ?_ _
  have EX := Lib.hid EW4d.out
  clear EW4d
  have ex := EX.out
  have wd20 := fz20 _ ex
  have wd21 := fz21 _ ex
  have wd30 := fz30 _ ex
  have wd31 := fz31 _ ex
  by_cases hee : ep1 = ep2 ∧ n1 = n2
  · obtain ⟨rfl, hnn⟩ := hee
    subst hnn
    go_wp2_with (first
      | (go_at_call 38; (with_reducible refine (CPc.out _ ex).mono ?_); rintro e w5 ⟨Ac, cc, rfl, hsx, hx⟩; have Ew5 : Ext W0 w5 := Ext.trans ex hx; have w5z20 := fz20 w5 Ew5; have w5z21 := fz21 w5 Ew5; have w5z30 := fz30 w5 Ew5; have w5z31 := fz31 w5 Ew5; have HSc := Lib.hid hsx; clear hsx; clear hx)
      | (go_at_call 38; (with_reducible refine (CPd.out _ Ew5).mono ?_); rintro e w6 ⟨Ad, cd, rfl, hsx, hx⟩; have Ew6 : Ext W0 w6 := Ext.trans Ew5 hx; have w6z20 := fz20 w6 Ew6; have w6z21 := fz21 w6 Ew6; have w6z30 := fz30 w6 Ew6; have w6z31 := fz31 w6 Ew6; have HSd := Lib.hid hsx; have HSc2 : Hid (Sl Go.Proofs.Ytdbnaflaobncgaa.u8 w6 Ac X7) := HSc.out.stay hx; clear hsx; clear hx))
    go_loopw [17, 18] (fun b i wr => ∃ (k : Nat) (bv : Bool), k ≤ n1 ∧ b = .bool bv ∧ i = .int .i64 k ∧ Hid ((bv = true → l1.take k = l2.take k) ∧ (bv = false → ¬ l1 = l2)) ∧ Hid (Ext W0 wr ∧ Ext w6 wr)) (fun _ i _ => n1 - (intOf i).toNat)
    case atStart => exact ⟨0, true, Nat.zero_le _, rfl, rfl, ⟨fun _ => rfl, fun h => by simp at h⟩, Ew6, Ext.refl _⟩
    case round =>
      obtain ⟨k, bv, hk, rfl, rfl, HI, HE⟩ := hrel
      have eW := HE.out.1
      have eW6 := HE.out.2
      have wrz20 := fz20 wr eW; have wrz21 := fz21 wr eW; have wrz30 := fz30 wr eW; have wrz31 := fz31 wr eW
      cases bv with
      | false =>
        have hne := HI.out.2 rfl
        have hsn : ¬ sc.toList = sd.toList := fun e => hne (HSS.out.1 (Go.WideShapes.bytes_inj (by rw [← ByteArray.toList_eq, ← ByteArray.toList_eq]; exact e))).2
        clear HI
        go_wp2_with (go_at_call 29; (with_reducible refine (HT.out _ eW).mono ?_); rintro e w9 ⟨rfl, hx⟩; have E9 : Ext W0 w9 := Ext.trans eW hx; have hv1 := HVC.out _ Ac cc HSc2.out w9 (Ext.trans eW6 hx); have hv2 := HVD.out _ Ad cd HSd.out w9 (Ext.trans eW6 hx); clear hx)
        try go_ret
        first | exact hD.out _ _ ⟨rfl, Ext.trans HX0.out E9⟩ | exact hD.out _ _ ⟨ret_bool (show (!(sc.toList == sd.toList)) = true by simp [hsn]), Ext.trans HX0.out E9⟩
      | true =>
        have htk := Lib.hid (HI.out.1 rfl)
        clear HI
        by_cases hlt : k < n1
        · have hs1 := HSC.out _ eW
          have hs2 := HSD.out _ eW
          obtain ⟨g1, o1, rfl, hc1⟩ := hs1.at_ (k := k) (by have := HL1.out; omega)
          obtain ⟨g2, o2, rfl, hc2⟩ := hs2.at_ (k := k) (by have := HL2.out; omega)
          have hk1 : k < l1.length := by have := HL1.out; omega
          have hk2 : k < l2.length := by have := HL2.out; omega
          have HT1 : Hid (l1.take (k + 1) = l1.take k ++ [l1[k]]) := List.take_succ_eq_append_getElem hk1
          have HT2 : Hid (l2.take (k + 1) = l2.take k ++ [l2[k]]) := List.take_succ_eq_append_getElem hk2
          have HG : Hid (¬ l1[k] = l2[k] → ¬ l1 = l2) := fun h e => h (by subst e; rfl)
          clear hs1 hs2
          generalize l1[k] = x at *
          generalize l2[k] = y at *
          unfold i64 at hc1 hc2
          have hk0 : (0 : Int) ≤ (k : Int) := by omega
          have hk3 : (k : Int) < (n1 : Int) := by omega
          by_cases hxy : x = y
          · subst hxy
            go_wp2
            go_quiet (fail)
            go_wp2
            go_roundw
            case rel => exact ⟨k + 1, true, by omega, by first | rfl | simp, by go_num, ⟨fun _ => by rw [HT1.out, HT2.out, htk.out], fun h => by simp at h⟩, HE.out.1.drewN, HE.out.2.drewN⟩
            case measure => simp [intOf]; omega
          · have hn := HG.out hxy
            go_wp2
            go_quiet (fail)
            go_wp2
            go_roundw
            case rel => exact ⟨k + 1, false, by omega, by first | rfl | simp [hxy], by go_num, ⟨fun h => by simp at h, fun _ => hn⟩, HE.out.1.drewN, HE.out.2.drewN⟩
            case measure => simp [intOf]; omega
        · have hk3 : ¬ (k : Int) < (n1 : Int) := by omega
          have e1 : l1 = l2 := by
            have h := htk.out
            rw [List.take_of_length_le (by have := HL1.out; omega), List.take_of_length_le (by have := HL2.out; omega)] at h
            exact h
          have e2 : sc = sd := HSS.out.2 (by first | exact ⟨rfl, e1⟩ | exact ⟨trivial, e1⟩)
          subst e2
          go_wp2_with (go_at_call 29; (with_reducible refine (HT.out _ eW).mono ?_); rintro e w9 ⟨rfl, hx⟩; have E9 : Ext W0 w9 := Ext.trans eW hx; have hv1 := HVC.out _ Ac cc HSc2.out w9 (Ext.trans eW6 hx); have hv2 := HVD.out _ Ad cd HSd.out w9 (Ext.trans eW6 hx); clear hx)
          try go_ret
          first | exact hD.out _ _ ⟨rfl, Ext.trans HX0.out E9⟩ | exact hD.out _ _ ⟨ret_bool (show (!(sc.toList == sd.toList)) = true by simp [hsn]), Ext.trans HX0.out E9⟩
  · have hne : ¬ sc = sd := fun e => hee ⟨(HSS.out.1 e).1, by rw [HL1.out, HL2.out, (HSS.out.1 e).2]⟩
    have hsn : ¬ sc.toList = sd.toList := fun e => hne (Go.WideShapes.bytes_inj (by rw [← ByteArray.toList_eq, ← ByteArray.toList_eq]; exact e))
    by_cases hep : ep1 = ep2
    · subst hep
      have hnn : ¬ n1 = n2 := fun e => hee ⟨rfl, e⟩
      have hnn2 : ¬ (n1 : Int) = (n2 : Int) := by omega
      clear hee
      go_wp2_with (first
        | (go_at_call 38; (with_reducible refine (CPc.out _ ex).mono ?_); rintro e w5 ⟨Ac, cc, rfl, hsx, hx⟩; have Ew5 : Ext W0 w5 := Ext.trans ex hx; have w5z20 := fz20 w5 Ew5; have w5z21 := fz21 w5 Ew5; have w5z30 := fz30 w5 Ew5; have w5z31 := fz31 w5 Ew5; have HSc := Lib.hid hsx; clear hsx; clear hx)
        | (go_at_call 38; (with_reducible refine (CPd.out _ Ew5).mono ?_); rintro e w6 ⟨Ad, cd, rfl, hsx, hx⟩; have Ew6 : Ext W0 w6 := Ext.trans Ew5 hx; have w6z20 := fz20 w6 Ew6; have w6z21 := fz21 w6 Ew6; have w6z30 := fz30 w6 Ew6; have w6z31 := fz31 w6 Ew6; have HSd := Lib.hid hsx; have HSc2 : Hid (Sl Go.Proofs.Ytdbnaflaobncgaa.u8 w6 Ac X7) := HSc.out.stay hx; clear hsx; clear hx))
      go_loopw [17, 18] (fun b i wr => b = .bool false ∧ i = .int .i64 0 ∧ Hid (Ext W0 wr ∧ Ext w6 wr)) (fun _ _ _ => 0)
      case atStart => exact ⟨by first | rfl | (simp [hnn2]; done) | (simp; omega), rfl, Ew6, Ext.refl _⟩
      case round =>
        obtain ⟨rfl, rfl, HE⟩ := hrel
        have eW := HE.out.1
        have eW6 := HE.out.2
        have wrz20 := fz20 wr eW; have wrz21 := fz21 wr eW; have wrz30 := fz30 wr eW; have wrz31 := fz31 wr eW
        go_wp2_with (go_at_call 29; (with_reducible refine (HT.out _ eW).mono ?_); rintro e w9 ⟨rfl, hx⟩; have E9 : Ext W0 w9 := Ext.trans eW hx; have hv1 := HVC.out _ Ac cc HSc2.out w9 (Ext.trans eW6 hx); have hv2 := HVD.out _ Ad cd HSd.out w9 (Ext.trans eW6 hx); clear hx)
        try go_ret
        first | exact hD.out _ _ ⟨rfl, Ext.trans HX0.out E9⟩ | exact hD.out _ _ ⟨ret_bool (show (!(sc.toList == sd.toList)) = true by simp [hsn]), Ext.trans HX0.out E9⟩
    · clear hee
      go_wp2_with (first
        | (go_at_call 38; (with_reducible refine (CPc.out _ ex).mono ?_); rintro e w5 ⟨Ac, cc, rfl, hsx, hx⟩; have Ew5 : Ext W0 w5 := Ext.trans ex hx; have w5z20 := fz20 w5 Ew5; have w5z21 := fz21 w5 Ew5; have w5z30 := fz30 w5 Ew5; have w5z31 := fz31 w5 Ew5; have HSc := Lib.hid hsx; clear hsx; clear hx)
        | (go_at_call 38; (with_reducible refine (CPd.out _ Ew5).mono ?_); rintro e w6 ⟨Ad, cd, rfl, hsx, hx⟩; have Ew6 : Ext W0 w6 := Ext.trans Ew5 hx; have w6z20 := fz20 w6 Ew6; have w6z21 := fz21 w6 Ew6; have w6z30 := fz30 w6 Ew6; have w6z31 := fz31 w6 Ew6; have HSd := Lib.hid hsx; have HSc2 : Hid (Sl Go.Proofs.Ytdbnaflaobncgaa.u8 w6 Ac X7) := HSc.out.stay hx; clear hsx; clear hx))
      go_loopw [17, 18] (fun b i wr => b = .bool false ∧ i = .int .i64 0 ∧ Hid (Ext W0 wr ∧ Ext w6 wr)) (fun _ _ _ => 0)
      case atStart => exact ⟨by first | rfl | simp [hep], rfl, Ew6, Ext.refl _⟩
      case round =>
        obtain ⟨rfl, rfl, HE⟩ := hrel
        have eW := HE.out.1
        have eW6 := HE.out.2
        have wrz20 := fz20 wr eW; have wrz21 := fz21 wr eW; have wrz30 := fz30 wr eW; have wrz31 := fz31 wr eW
        go_wp2_with (go_at_call 29; (with_reducible refine (HT.out _ eW).mono ?_); rintro e w9 ⟨rfl, hx⟩; have E9 : Ext W0 w9 := Ext.trans eW hx; have hv1 := HVC.out _ Ac cc HSc2.out w9 (Ext.trans eW6 hx); have hv2 := HVD.out _ Ad cd HSd.out w9 (Ext.trans eW6 hx); clear hx)
        try go_ret
        first | exact hD.out _ _ ⟨rfl, Ext.trans HX0.out E9⟩ | exact hD.out _ _ ⟨ret_bool (show (!(sc.toList == sd.toList)) = true by simp [hsn]), Ext.trans HX0.out E9⟩

set_option maxRecDepth 8000 in
set_option maxHeartbeats 16000000 in
theorem apart_1_0 (c s k i m : Int) (d : ByteArray) (c2 s2 k2 i2 m2 : Int) (d2 : ByteArray) (ep1 : Int) (A1 : Option Addr) (cap1 n1 : Nat) (ep2 : Int) (A2 : Option Addr) (cap2 n2 : Nat) (w : World) (hd : d.size ≤ 300) (hd2 : d2.size ≤ 300) (hm : mayReqB c s k i m d.size = true) (hm2 : mayReqB c2 s2 k2 i2 m2 d2.size = false) (l1 l2 : List Int) (hn1 : n1 = l1.length) (hn2 : n2 = l2.length) (h1 : n1 ≤ 8) (h2 : n2 ≤ 8) (hc1 : l1.length ≤ cap1) (hc2 : l2.length ≤ cap2) (hs1 : Sl i64 w A1 l1) (hs2 : Sl i64 w A2 l2) (hmc : mayChainB ep1 l1 = false) :
    Calls Try.prog 11 #[.agg #[.int .i64 c, .int .i64 s, .int .i64 k, .int .i64 i, .int .i64 m, .string d], .agg #[.int .i64 c2, .int .i64 s2, .int .i64 k2, .int .i64 i2, .int .i64 m2, .string d2], .agg #[.int .i64 ep1, .slice A1 n1 cap1], .agg #[.int .i64 ep2, .slice A2 n2 cap2]] w fun e w' => e = .returned (.bool true) ∧ Below w.heap.size w w' := by
  refine hide_post fun D hD => ?_
  obtain ⟨W0, hW0⟩ : ∃ W0, W0 = ((((w.alloc (.cells #[.int .i64 c, .int .i64 s, .int .i64 k, .int .i64 i, .int .i64 m, .string d] 30)).alloc (.cells #[.int .i64 c2, .int .i64 s2, .int .i64 k2, .int .i64 i2, .int .i64 m2, .string d2] 30)).alloc (.cells #[.int .i64 ep1, .slice A1 n1 cap1] 39)).alloc (.cells #[.int .i64 ep2, .slice A2 n2 cap2] 39)) := ⟨_, rfl⟩
  have hx0 : Ext w W0 := by rw [hW0]; exact Ext.trans (Ext.trans (Ext.trans (Ext.alloc _ _) (Ext.alloc _ _)) (Ext.alloc _ _)) (Ext.alloc _ _)
  have kb0 : Blk W0 w.heap.size 30 #[.int .i64 c, .int .i64 s, .int .i64 k, .int .i64 i, .int .i64 m, .string d] := by rw [hW0]; exact (((Blk.new _ _ _).alloc _).alloc _).alloc _
  have fz00 : ∀ V, Ext W0 V → V.cell? ⟨w.heap.size, 0, none⟩ = some (.int .i64 c) := fun V h => (kb0.stay h).cell 0
  have fz01 : ∀ V, Ext W0 V → V.cell? ⟨w.heap.size, 1, none⟩ = some (.int .i64 s) := fun V h => (kb0.stay h).cell 1
  have fz02 : ∀ V, Ext W0 V → V.cell? ⟨w.heap.size, 2, none⟩ = some (.int .i64 k) := fun V h => (kb0.stay h).cell 2
  have fz03 : ∀ V, Ext W0 V → V.cell? ⟨w.heap.size, 3, none⟩ = some (.int .i64 i) := fun V h => (kb0.stay h).cell 3
  have fz04 : ∀ V, Ext W0 V → V.cell? ⟨w.heap.size, 4, none⟩ = some (.int .i64 m) := fun V h => (kb0.stay h).cell 4
  have fz05 : ∀ V, Ext W0 V → V.cell? ⟨w.heap.size, 5, none⟩ = some (.string d) := fun V h => (kb0.stay h).cell 5
  have kb1 : Blk W0 (w.heap.size + 1) 30 #[.int .i64 c2, .int .i64 s2, .int .i64 k2, .int .i64 i2, .int .i64 m2, .string d2] := by rw [hW0]; exact ((Blk.new' _ _ _ _ (by simp)).alloc _).alloc _
  have fz10 : ∀ V, Ext W0 V → V.cell? ⟨(w.heap.size + 1), 0, none⟩ = some (.int .i64 c2) := fun V h => (kb1.stay h).cell 0
  have fz11 : ∀ V, Ext W0 V → V.cell? ⟨(w.heap.size + 1), 1, none⟩ = some (.int .i64 s2) := fun V h => (kb1.stay h).cell 1
  have fz12 : ∀ V, Ext W0 V → V.cell? ⟨(w.heap.size + 1), 2, none⟩ = some (.int .i64 k2) := fun V h => (kb1.stay h).cell 2
  have fz13 : ∀ V, Ext W0 V → V.cell? ⟨(w.heap.size + 1), 3, none⟩ = some (.int .i64 i2) := fun V h => (kb1.stay h).cell 3
  have fz14 : ∀ V, Ext W0 V → V.cell? ⟨(w.heap.size + 1), 4, none⟩ = some (.int .i64 m2) := fun V h => (kb1.stay h).cell 4
  have fz15 : ∀ V, Ext W0 V → V.cell? ⟨(w.heap.size + 1), 5, none⟩ = some (.string d2) := fun V h => (kb1.stay h).cell 5
  have kb2 : Blk W0 (w.heap.size + 1 + 1) 39 #[.int .i64 ep1, .slice A1 n1 cap1] := by rw [hW0]; exact (Blk.new' _ _ _ _ (by simp)).alloc _
  have fz20 : ∀ V, Ext W0 V → V.cell? ⟨(w.heap.size + 1 + 1), 0, none⟩ = some (.int .i64 ep1) := fun V h => (kb2.stay h).cell 0
  have fz21 : ∀ V, Ext W0 V → V.cell? ⟨(w.heap.size + 1 + 1), 1, none⟩ = some (.slice A1 n1 cap1) := fun V h => (kb2.stay h).cell 1
  have kb3 : Blk W0 (w.heap.size + 1 + 1 + 1) 39 #[.int .i64 ep2, .slice A2 n2 cap2] := by rw [hW0]; exact Blk.new' _ _ _ _ (by simp)
  have fz30 : ∀ V, Ext W0 V → V.cell? ⟨(w.heap.size + 1 + 1 + 1), 0, none⟩ = some (.int .i64 ep2) := fun V h => (kb3.stay h).cell 0
  have fz31 : ∀ V, Ext W0 V → V.cell? ⟨(w.heap.size + 1 + 1 + 1), 1, none⟩ = some (.slice A2 n2 cap2) := fun V h => (kb3.stay h).cell 1
  have HW0 := Lib.hid hW0
  have HX0 := Lib.hid hx0
  have E0 : Hid (Ext W0 W0) := Ext.refl _
  have HT : Hid (∀ V, Ext W0 V → Calls Try.prog 29 #[] V fun e w' => e = .returned (.bool true) ∧ Ext V w') := fun V _ => told2 V
  have hdm : d.size ≤ maxLen := by unfold maxLen; omega
  have hdm2 : d2.size ≤ maxLen := by unfold maxLen; omega
  have CFa : Hid (∀ V, Ext W0 V → Calls Try.prog 28 #[.agg #[.int .i64 c, .int .i64 s, .int .i64 k, .int .i64 i, .int .i64 m, .string d]] V fun e w' => e = .returned (.bool true) ∧ Ext V w') := fun V _ => by have h := few_any c s k i m d V hdm; rw [decide_eq_true hd] at h; exact h
  have CFb : Hid (∀ V, Ext W0 V → Calls Try.prog 28 #[.agg #[.int .i64 c2, .int .i64 s2, .int .i64 k2, .int .i64 i2, .int .i64 m2, .string d2]] V fun e w' => e = .returned (.bool true) ∧ Ext V w') := fun V _ => by have h := few_any c2 s2 k2 i2 m2 d2 V hdm2; rw [decide_eq_true hd2] at h; exact h
  obtain ⟨qa, qam, qae⟩ := rq_of hm
  obtain ⟨XA, hXA⟩ : ∃ L, L = putB qa := ⟨_, rfl⟩
  obtain ⟨x1, hx1⟩ : ∃ n, n = (putB qa).length := ⟨_, rfl⟩
  have CPa : Hid (∀ V, Ext W0 V → Calls Try.prog 31 #[.agg #[.int .i64 c, .int .i64 s, .int .i64 k, .int .i64 i, .int .i64 m, .string d]] V fun e w' => ∃ A' c', e = .returned (.tuple #[.slice A' x1 c', .int .i64 0]) ∧ Sl Go.Proofs.Ytdbnaflaobncgaa.u8 w' A' XA ∧ Ext V w') := fun V hV => by
    rw [qae, hx1, hXA]; exact putReq_yes qa V qam
  have CPb : Hid (∀ V, Ext W0 V → Calls Try.prog 31 #[.agg #[.int .i64 c2, .int .i64 s2, .int .i64 k2, .int .i64 i2, .int .i64 m2, .string d2]] V fun e w' => e = .returned (.tuple #[.slice none 0 0, .int .i64 1]) ∧ Ext V w') := fun V hV => by
    exact putReq_no c2 s2 k2 i2 m2 d2 V hdm2 hm2
  have CPc : Hid (∀ V, Ext W0 V → Calls Try.prog 38 #[.agg #[.int .i64 ep1, .slice A1 n1 cap1]] V fun e w' => e = .returned (.tuple #[.slice none 0 0, .int .i64 1]) ∧ Ext V w') := fun V hV => by
    rw [hn1]; exact putChain_no ep1 A1 cap1 l1 V (by omega) hc1 (hs1.stay (Ext.trans hx0 hV)) hmc
  have CPd : Hid (∀ V, Ext W0 V → Calls Try.prog 38 #[.agg #[.int .i64 ep2, .slice A2 n2 cap2]] V fun e w' => ∃ A' n' c' f', e = .returned (.tuple #[.slice A' n' c', .int .i64 f']) ∧ Ext V w') := fun V hV => by
    cases hmd : mayChainB ep2 l2 with
    | false =>
      rw [hn2]
      exact (putChain_no ep2 A2 cap2 l2 V (by omega) hc2 (hs2.stay (Ext.trans hx0 hV)) hmd).mono fun e w' ⟨h1, h2⟩ => ⟨_, _, _, _, h1, h2⟩
    | true =>
      obtain ⟨e8, ns8, he8, hl8⟩ := mayChainB_ints hmd
      rw [hn2, he8, hl8, ints_len]
      exact (putChain_yes e8 A2 cap2 ns8 V (by rw [hl8, ints_len] at hc2; exact hc2) (by rw [← hl8]; exact hs2.stay (Ext.trans hx0 hV)) (by rw [← he8, ← hl8]; exact hmd)).mono fun e w' ⟨_, _, h1, _, h2⟩ => ⟨_, _, _, _, h1, h2⟩
  have b1 : ¬ (8 : Int) < (n1 : Int) := by omega
  have b2 : ¬ (8 : Int) < (n2 : Int) := by omega
  clear kb0 kb1 kb2 kb3 hx0 hW0 hdm hd hdm2 hd2 hm hm2 hn1 hn2 hc1 hc2 hs1 hs2 hmc qae qam hx1 hXA
  go_enter Try.func11, Try.ntmps11
  go_wp2_with fail
  rw [← HW0.out]
  have e0 := E0.out
  have W0z00 := fz00 W0 E0.out; have W0z01 := fz01 W0 E0.out; have W0z02 := fz02 W0 E0.out; have W0z03 := fz03 W0 E0.out; have W0z04 := fz04 W0 E0.out; have W0z05 := fz05 W0 E0.out; have W0z10 := fz10 W0 E0.out; have W0z11 := fz11 W0 E0.out; have W0z12 := fz12 W0 E0.out; have W0z13 := fz13 W0 E0.out; have W0z14 := fz14 W0 E0.out; have W0z15 := fz15 W0 E0.out; have W0z20 := fz20 W0 E0.out; have W0z21 := fz21 W0 E0.out; have W0z30 := fz30 W0 E0.out; have W0z31 := fz31 W0 E0.out
  go_wp2_with (first
    | (go_at_call 28; (with_reducible refine (CFa.out _ e0).mono ?_); rintro e w1 ⟨rfl, hx⟩; have Ew1 : Ext W0 w1 := Ext.trans e0 hx; have w1z00 := fz00 w1 Ew1; have w1z01 := fz01 w1 Ew1; have w1z02 := fz02 w1 Ew1; have w1z03 := fz03 w1 Ew1; have w1z04 := fz04 w1 Ew1; have w1z05 := fz05 w1 Ew1; have w1z10 := fz10 w1 Ew1; have w1z11 := fz11 w1 Ew1; have w1z12 := fz12 w1 Ew1; have w1z13 := fz13 w1 Ew1; have w1z14 := fz14 w1 Ew1; have w1z15 := fz15 w1 Ew1; have w1z20 := fz20 w1 Ew1; have w1z21 := fz21 w1 Ew1; have w1z30 := fz30 w1 Ew1; have w1z31 := fz31 w1 Ew1; clear hx)
    | (go_at_call 28; (with_reducible refine (CFb.out _ Ew1).mono ?_); rintro e w2 ⟨rfl, hx⟩; have Ew2 : Ext W0 w2 := Ext.trans Ew1 hx; have w2z00 := fz00 w2 Ew2; have w2z01 := fz01 w2 Ew2; have w2z02 := fz02 w2 Ew2; have w2z03 := fz03 w2 Ew2; have w2z04 := fz04 w2 Ew2; have w2z05 := fz05 w2 Ew2; have w2z10 := fz10 w2 Ew2; have w2z11 := fz11 w2 Ew2; have w2z12 := fz12 w2 Ew2; have w2z13 := fz13 w2 Ew2; have w2z14 := fz14 w2 Ew2; have w2z15 := fz15 w2 Ew2; have w2z20 := fz20 w2 Ew2; have w2z21 := fz21 w2 Ew2; have w2z30 := fz30 w2 Ew2; have w2z31 := fz31 w2 Ew2; clear hx)
    | (go_at_call 31; (with_reducible refine (CPa.out _ Ew2).mono ?_); rintro e w3 ⟨Aa, ca, rfl, hsx, hx⟩; have Ew3 : Ext W0 w3 := Ext.trans Ew2 hx; have w3z00 := fz00 w3 Ew3; have w3z01 := fz01 w3 Ew3; have w3z02 := fz02 w3 Ew3; have w3z03 := fz03 w3 Ew3; have w3z04 := fz04 w3 Ew3; have w3z05 := fz05 w3 Ew3; have w3z10 := fz10 w3 Ew3; have w3z11 := fz11 w3 Ew3; have w3z12 := fz12 w3 Ew3; have w3z13 := fz13 w3 Ew3; have w3z14 := fz14 w3 Ew3; have w3z15 := fz15 w3 Ew3; have w3z20 := fz20 w3 Ew3; have w3z21 := fz21 w3 Ew3; have w3z30 := fz30 w3 Ew3; have w3z31 := fz31 w3 Ew3; have HSA := Lib.hid hsx; clear hsx; clear hx)
    | (go_at_call 31; (with_reducible refine (CPb.out _ Ew3).mono ?_); rintro e w4 ⟨rfl, hx⟩; have Ew4 : Ext W0 w4 := Ext.trans Ew3 hx; have w4z00 := fz00 w4 Ew4; have w4z01 := fz01 w4 Ew4; have w4z02 := fz02 w4 Ew4; have w4z03 := fz03 w4 Ew4; have w4z04 := fz04 w4 Ew4; have w4z05 := fz05 w4 Ew4; have w4z10 := fz10 w4 Ew4; have w4z11 := fz11 w4 Ew4; have w4z12 := fz12 w4 Ew4; have w4z13 := fz13 w4 Ew4; have w4z14 := fz14 w4 Ew4; have w4z15 := fz15 w4 Ew4; have w4z20 := fz20 w4 Ew4; have w4z21 := fz21 w4 Ew4; have w4z30 := fz30 w4 Ew4; have w4z31 := fz31 w4 Ew4; clear hx))
  have EW4 := Lib.hid Ew4
  clear W0z00 W0z01 W0z02 W0z03 W0z04 W0z05 W0z10 W0z11 W0z12 W0z13 W0z14 W0z15 W0z20 W0z21 W0z30 W0z31 w1z00 w1z01 w1z02 w1z03 w1z04 w1z05 w1z10 w1z11 w1z12 w1z13 w1z14 w1z15 w1z20 w1z21 w1z30 w1z31 w2z00 w2z01 w2z02 w2z03 w2z04 w2z05 w2z10 w2z11 w2z12 w2z13 w2z14 w2z15 w2z20 w2z21 w2z30 w2z31 w3z00 w3z01 w3z02 w3z03 w3z04 w3z05 w3z10 w3z11 w3z12 w3z13 w3z14 w3z15 w3z20 w3z21 w3z30 w3z31 w4z00 w4z01 w4z02 w4z03 w4z04 w4z05 w4z10 w4z11 w4z12 w4z13 w4z14 w4z15 w4z20 w4z21 w4z30 w4z31 Ew1 Ew2 Ew3 Ew4
  refine ext_begin (by kernel_rfl) ?_
  have EW4d := Lib.hid (Ext.drewR EW4.out)
  refine ext_take (i := 0) (v := ?_) rfl (by kernel_rfl) (by kernel_rfl) (by kernel_rfl) (fun _ _ _ h => h) (by rfl) ?_ ?_
  rotate_left
  · intro W hW; have hW0 := Ext.trans EW4d.out hW; clear hW; go_simp <;> with_reducible rfl
  try simp only [Act.put, List.setIfInBounds_toArray, List.set_cons_zero, List.set_cons_succ]
  refine ext_take (i := 1) (v := ?_) rfl (by kernel_rfl) (by kernel_rfl) (by kernel_rfl) (fun _ _ _ h => h) (by rfl) ?_ ?_
  rotate_left
  · intro W hW; have hW0 := Ext.trans EW4d.out hW; clear hW; go_simp <;> with_reducible rfl
  try simp only [Act.put, List.setIfInBounds_toArray, List.set_cons_zero, List.set_cons_succ]
  refine ext_take (i := 2) (v := ?_) rfl (by kernel_rfl) (by kernel_rfl) (by kernel_rfl) (fun _ _ _ h => h) (by rfl) ?_ ?_
  rotate_left
  · intro W hW; have hW0 := Ext.trans EW4d.out hW; clear hW; go_simp <;> with_reducible rfl
  try simp only [Act.put, List.setIfInBounds_toArray, List.set_cons_zero, List.set_cons_succ]
  refine ext_take (i := 3) (v := ?_) rfl (by kernel_rfl) (by kernel_rfl) (by kernel_rfl) (fun _ _ _ h => h) (by rfl) ?_ ?_
  rotate_left
  · intro W hW; have hW0 := Ext.trans EW4d.out hW; clear hW; go_simp <;> with_reducible rfl
  try simp only [Act.put, List.setIfInBounds_toArray, List.set_cons_zero, List.set_cons_succ]
  refine ext_take (i := 4) (v := ?_) rfl (by kernel_rfl) (by kernel_rfl) (by kernel_rfl) (fun _ _ _ h => h) (by rfl) ?_ ?_
  rotate_left
  · intro W hW; have hW0 := Ext.trans EW4d.out hW; clear hW; go_simp <;> with_reducible rfl
  try simp only [Act.put, List.setIfInBounds_toArray, List.set_cons_zero, List.set_cons_succ]
  refine ext_take (i := 5) (v := ?_) rfl (by kernel_rfl) (by kernel_rfl) (by kernel_rfl) (fun _ _ _ h => h) (by rfl) ?_ ?_
  rotate_left
  · intro W hW; have hW0 := Ext.trans EW4d.out hW; clear hW; go_simp <;> with_reducible rfl
  try simp only [Act.put, List.setIfInBounds_toArray, List.set_cons_zero, List.set_cons_succ]
  refine ext_take (i := 6) (v := ?_) rfl (by kernel_rfl) (by kernel_rfl) (by kernel_rfl) (fun _ _ _ h => h) (by rfl) ?_ ?_
  rotate_left
  · intro W hW; have hW0 := Ext.trans EW4d.out hW; clear hW; go_simp <;> with_reducible rfl
  try simp only [Act.put, List.setIfInBounds_toArray, List.set_cons_zero, List.set_cons_succ]
  refine ext_skip (i := 7) rfl (by kernel_rfl) (by kernel_rfl) (by kernel_rfl) (fun _ _ _ h => h) (by rfl) ?_
  try simp only [Act.put, List.setIfInBounds_toArray, List.set_cons_zero, List.set_cons_succ]
  refine ext_skip (i := 8) rfl (by kernel_rfl) (by kernel_rfl) (by kernel_rfl) (fun _ _ _ h => h) (by rfl) ?_
  try simp only [Act.put, List.setIfInBounds_toArray, List.set_cons_zero, List.set_cons_succ]
  refine ext_skip (i := 9) rfl (by kernel_rfl) (by kernel_rfl) (by kernel_rfl) (fun _ _ _ h => h) (by rfl) ?_
  try simp only [Act.put, List.setIfInBounds_toArray, List.set_cons_zero, List.set_cons_succ]
  refine ext_skip (i := 10) rfl (by kernel_rfl) (by kernel_rfl) (by kernel_rfl) (fun _ _ _ h => h) (by rfl) ?_
  try simp only [Act.put, List.setIfInBounds_toArray, List.set_cons_zero, List.set_cons_succ]
  refine ext_skip (i := 11) rfl (by kernel_rfl) (by kernel_rfl) (by kernel_rfl) (fun _ _ _ h => h) (by rfl) ?_
  try simp only [Act.put, List.setIfInBounds_toArray, List.set_cons_zero, List.set_cons_succ]
  refine ext_skip (i := 12) rfl (by kernel_rfl) (by kernel_rfl) (by kernel_rfl) (fun _ _ _ h => h) (by rfl) ?_
  try simp only [Act.put, List.setIfInBounds_toArray, List.set_cons_zero, List.set_cons_succ]
  refine ext_skip (i := 13) rfl (by kernel_rfl) (by kernel_rfl) (by kernel_rfl) (fun _ _ _ h => h) (by rfl) ?_
  try simp only [Act.put, List.setIfInBounds_toArray, List.set_cons_zero, List.set_cons_succ]
  refine ext_skip (i := 14) rfl (by kernel_rfl) (by kernel_rfl) (by kernel_rfl) (fun _ _ _ h => h) (by rfl) ?_
  try simp only [Act.put, List.setIfInBounds_toArray, List.set_cons_zero, List.set_cons_succ]
  refine ext_skip (i := 15) rfl (by kernel_rfl) (by kernel_rfl) (by kernel_rfl) (fun _ _ _ h => h) (by rfl) ?_
  try simp only [Act.put, List.setIfInBounds_toArray, List.set_cons_zero, List.set_cons_succ]
  refine ext_take (i := 16) (v := ?_) rfl (by kernel_rfl) (by kernel_rfl) (by kernel_rfl) (fun _ _ _ h => h) (by rfl) ?_ ?_
  rotate_left
  · intro W hW; have hW0 := Ext.trans EW4d.out hW; clear hW; go_simp <;> with_reducible rfl
  try simp only [Act.put, List.setIfInBounds_toArray, List.set_cons_zero, List.set_cons_succ]
  refine wpAnyH_done (by kernel_rfl) ?_ _
  have EX := Lib.hid EW4d.out
  clear EW4d
  have ex := EX.out
  have wd20 := fz20 _ ex
  have wd21 := fz21 _ ex
  have wd30 := fz30 _ ex
  have wd31 := fz31 _ ex
  go_wp2_with (first
    | (go_at_call 38; (with_reducible refine (CPc.out _ ex).mono ?_); rintro e w5 ⟨rfl, hx⟩; have Ew5 : Ext W0 w5 := Ext.trans ex hx; have w5z20 := fz20 w5 Ew5; have w5z21 := fz21 w5 Ew5; have w5z30 := fz30 w5 Ew5; have w5z31 := fz31 w5 Ew5; clear hx)
    | (go_at_call 38; (with_reducible refine (CPd.out _ Ew5).mono ?_); rintro e w6 ⟨Ad, nd, cd, fd, rfl, hx⟩; have Ew6 : Ext W0 w6 := Ext.trans Ew5 hx; have w6z20 := fz20 w6 Ew6; have w6z21 := fz21 w6 Ew6; have w6z30 := fz30 w6 Ew6; have w6z31 := fz31 w6 Ew6; clear hx)
    | (go_at_call 29; (with_reducible refine (HT.out _ Ew6).mono ?_); rintro e w7 ⟨rfl, hx⟩; have Ew7 : Ext W0 w7 := Ext.trans Ew6 hx; clear hx))
  try go_ret
  exact hD.out _ _ ⟨rfl, Ext.trans HX0.out Ew7⟩

set_option maxRecDepth 8000 in
set_option maxHeartbeats 16000000 in
theorem apart_1_1 (c s k i m : Int) (d : ByteArray) (c2 s2 k2 i2 m2 : Int) (d2 : ByteArray) (ep1 : Int) (A1 : Option Addr) (cap1 n1 : Nat) (ep2 : Int) (A2 : Option Addr) (cap2 n2 : Nat) (w : World) (hd : d.size ≤ 300) (hd2 : d2.size ≤ 300) (hm : mayReqB c s k i m d.size = true) (hm2 : mayReqB c2 s2 k2 i2 m2 d2.size = false) (l1 l2 : List Int) (hn1 : n1 = l1.length) (hn2 : n2 = l2.length) (h1 : n1 ≤ 8) (h2 : n2 ≤ 8) (hc1 : l1.length ≤ cap1) (hc2 : l2.length ≤ cap2) (hs1 : Sl i64 w A1 l1) (hs2 : Sl i64 w A2 l2) (hmc : mayChainB ep1 l1 = true) (hmd : mayChainB ep2 l2 = false) :
    Calls Try.prog 11 #[.agg #[.int .i64 c, .int .i64 s, .int .i64 k, .int .i64 i, .int .i64 m, .string d], .agg #[.int .i64 c2, .int .i64 s2, .int .i64 k2, .int .i64 i2, .int .i64 m2, .string d2], .agg #[.int .i64 ep1, .slice A1 n1 cap1], .agg #[.int .i64 ep2, .slice A2 n2 cap2]] w fun e w' => e = .returned (.bool true) ∧ Below w.heap.size w w' := by
  refine hide_post fun D hD => ?_
  obtain ⟨W0, hW0⟩ : ∃ W0, W0 = ((((w.alloc (.cells #[.int .i64 c, .int .i64 s, .int .i64 k, .int .i64 i, .int .i64 m, .string d] 30)).alloc (.cells #[.int .i64 c2, .int .i64 s2, .int .i64 k2, .int .i64 i2, .int .i64 m2, .string d2] 30)).alloc (.cells #[.int .i64 ep1, .slice A1 n1 cap1] 39)).alloc (.cells #[.int .i64 ep2, .slice A2 n2 cap2] 39)) := ⟨_, rfl⟩
  have hx0 : Ext w W0 := by rw [hW0]; exact Ext.trans (Ext.trans (Ext.trans (Ext.alloc _ _) (Ext.alloc _ _)) (Ext.alloc _ _)) (Ext.alloc _ _)
  have kb0 : Blk W0 w.heap.size 30 #[.int .i64 c, .int .i64 s, .int .i64 k, .int .i64 i, .int .i64 m, .string d] := by rw [hW0]; exact (((Blk.new _ _ _).alloc _).alloc _).alloc _
  have fz00 : ∀ V, Ext W0 V → V.cell? ⟨w.heap.size, 0, none⟩ = some (.int .i64 c) := fun V h => (kb0.stay h).cell 0
  have fz01 : ∀ V, Ext W0 V → V.cell? ⟨w.heap.size, 1, none⟩ = some (.int .i64 s) := fun V h => (kb0.stay h).cell 1
  have fz02 : ∀ V, Ext W0 V → V.cell? ⟨w.heap.size, 2, none⟩ = some (.int .i64 k) := fun V h => (kb0.stay h).cell 2
  have fz03 : ∀ V, Ext W0 V → V.cell? ⟨w.heap.size, 3, none⟩ = some (.int .i64 i) := fun V h => (kb0.stay h).cell 3
  have fz04 : ∀ V, Ext W0 V → V.cell? ⟨w.heap.size, 4, none⟩ = some (.int .i64 m) := fun V h => (kb0.stay h).cell 4
  have fz05 : ∀ V, Ext W0 V → V.cell? ⟨w.heap.size, 5, none⟩ = some (.string d) := fun V h => (kb0.stay h).cell 5
  have kb1 : Blk W0 (w.heap.size + 1) 30 #[.int .i64 c2, .int .i64 s2, .int .i64 k2, .int .i64 i2, .int .i64 m2, .string d2] := by rw [hW0]; exact ((Blk.new' _ _ _ _ (by simp)).alloc _).alloc _
  have fz10 : ∀ V, Ext W0 V → V.cell? ⟨(w.heap.size + 1), 0, none⟩ = some (.int .i64 c2) := fun V h => (kb1.stay h).cell 0
  have fz11 : ∀ V, Ext W0 V → V.cell? ⟨(w.heap.size + 1), 1, none⟩ = some (.int .i64 s2) := fun V h => (kb1.stay h).cell 1
  have fz12 : ∀ V, Ext W0 V → V.cell? ⟨(w.heap.size + 1), 2, none⟩ = some (.int .i64 k2) := fun V h => (kb1.stay h).cell 2
  have fz13 : ∀ V, Ext W0 V → V.cell? ⟨(w.heap.size + 1), 3, none⟩ = some (.int .i64 i2) := fun V h => (kb1.stay h).cell 3
  have fz14 : ∀ V, Ext W0 V → V.cell? ⟨(w.heap.size + 1), 4, none⟩ = some (.int .i64 m2) := fun V h => (kb1.stay h).cell 4
  have fz15 : ∀ V, Ext W0 V → V.cell? ⟨(w.heap.size + 1), 5, none⟩ = some (.string d2) := fun V h => (kb1.stay h).cell 5
  have kb2 : Blk W0 (w.heap.size + 1 + 1) 39 #[.int .i64 ep1, .slice A1 n1 cap1] := by rw [hW0]; exact (Blk.new' _ _ _ _ (by simp)).alloc _
  have fz20 : ∀ V, Ext W0 V → V.cell? ⟨(w.heap.size + 1 + 1), 0, none⟩ = some (.int .i64 ep1) := fun V h => (kb2.stay h).cell 0
  have fz21 : ∀ V, Ext W0 V → V.cell? ⟨(w.heap.size + 1 + 1), 1, none⟩ = some (.slice A1 n1 cap1) := fun V h => (kb2.stay h).cell 1
  have kb3 : Blk W0 (w.heap.size + 1 + 1 + 1) 39 #[.int .i64 ep2, .slice A2 n2 cap2] := by rw [hW0]; exact Blk.new' _ _ _ _ (by simp)
  have fz30 : ∀ V, Ext W0 V → V.cell? ⟨(w.heap.size + 1 + 1 + 1), 0, none⟩ = some (.int .i64 ep2) := fun V h => (kb3.stay h).cell 0
  have fz31 : ∀ V, Ext W0 V → V.cell? ⟨(w.heap.size + 1 + 1 + 1), 1, none⟩ = some (.slice A2 n2 cap2) := fun V h => (kb3.stay h).cell 1
  have HW0 := Lib.hid hW0
  have HX0 := Lib.hid hx0
  have E0 : Hid (Ext W0 W0) := Ext.refl _
  have HT : Hid (∀ V, Ext W0 V → Calls Try.prog 29 #[] V fun e w' => e = .returned (.bool true) ∧ Ext V w') := fun V _ => told2 V
  have hdm : d.size ≤ maxLen := by unfold maxLen; omega
  have hdm2 : d2.size ≤ maxLen := by unfold maxLen; omega
  have CFa : Hid (∀ V, Ext W0 V → Calls Try.prog 28 #[.agg #[.int .i64 c, .int .i64 s, .int .i64 k, .int .i64 i, .int .i64 m, .string d]] V fun e w' => e = .returned (.bool true) ∧ Ext V w') := fun V _ => by have h := few_any c s k i m d V hdm; rw [decide_eq_true hd] at h; exact h
  have CFb : Hid (∀ V, Ext W0 V → Calls Try.prog 28 #[.agg #[.int .i64 c2, .int .i64 s2, .int .i64 k2, .int .i64 i2, .int .i64 m2, .string d2]] V fun e w' => e = .returned (.bool true) ∧ Ext V w') := fun V _ => by have h := few_any c2 s2 k2 i2 m2 d2 V hdm2; rw [decide_eq_true hd2] at h; exact h
  obtain ⟨qa, qam, qae⟩ := rq_of hm
  obtain ⟨XA, hXA⟩ : ∃ L, L = putB qa := ⟨_, rfl⟩
  obtain ⟨x1, hx1⟩ : ∃ n, n = (putB qa).length := ⟨_, rfl⟩
  have CPa : Hid (∀ V, Ext W0 V → Calls Try.prog 31 #[.agg #[.int .i64 c, .int .i64 s, .int .i64 k, .int .i64 i, .int .i64 m, .string d]] V fun e w' => ∃ A' c', e = .returned (.tuple #[.slice A' x1 c', .int .i64 0]) ∧ Sl Go.Proofs.Ytdbnaflaobncgaa.u8 w' A' XA ∧ Ext V w') := fun V hV => by
    rw [qae, hx1, hXA]; exact putReq_yes qa V qam
  have CPb : Hid (∀ V, Ext W0 V → Calls Try.prog 31 #[.agg #[.int .i64 c2, .int .i64 s2, .int .i64 k2, .int .i64 i2, .int .i64 m2, .string d2]] V fun e w' => e = .returned (.tuple #[.slice none 0 0, .int .i64 1]) ∧ Ext V w') := fun V hV => by
    exact putReq_no c2 s2 k2 i2 m2 d2 V hdm2 hm2
  obtain ⟨e7, ns7, he7, hl7⟩ := mayChainB_ints hmc
  obtain ⟨X7, hX7⟩ : ∃ L, L = putC e7 ns7 := ⟨_, rfl⟩
  obtain ⟨z7, hz7⟩ : ∃ n, n = (putC e7 ns7).length := ⟨_, rfl⟩
  have CPc : Hid (∀ V, Ext W0 V → Calls Try.prog 38 #[.agg #[.int .i64 ep1, .slice A1 n1 cap1]] V fun e w' => ∃ A' c', e = .returned (.tuple #[.slice A' z7 c', .int .i64 0]) ∧ Sl Go.Proofs.Ytdbnaflaobncgaa.u8 w' A' X7 ∧ Ext V w') := fun V hV => by
    have h := putChain_yes e7 A1 cap1 ns7 V (by rw [hl7, ints_len] at hc1; exact hc1) (by rw [← hl7]; exact hs1.stay (Ext.trans hx0 hV)) (by rw [← he7, ← hl7]; exact hmc)
    rw [he7, hn1, hl7, ints_len, hz7, hX7]
    exact h
  have CPd : Hid (∀ V, Ext W0 V → Calls Try.prog 38 #[.agg #[.int .i64 ep2, .slice A2 n2 cap2]] V fun e w' => e = .returned (.tuple #[.slice none 0 0, .int .i64 1]) ∧ Ext V w') := fun V hV => by
    rw [hn2]; exact putChain_no ep2 A2 cap2 l2 V (by omega) hc2 (hs2.stay (Ext.trans hx0 hV)) hmd
  have b1 : ¬ (8 : Int) < (n1 : Int) := by omega
  have b2 : ¬ (8 : Int) < (n2 : Int) := by omega
  clear kb0 kb1 kb2 kb3 hx0 hW0 hdm hd hdm2 hd2 hm hm2 hn1 hn2 hc1 hc2 hs1 hs2 hmc hmd qae qam hx1 hXA he7 hl7 hX7 hz7
  go_enter Try.func11, Try.ntmps11
  go_wp2_with fail
  rw [← HW0.out]
  have e0 := E0.out
  have W0z00 := fz00 W0 E0.out; have W0z01 := fz01 W0 E0.out; have W0z02 := fz02 W0 E0.out; have W0z03 := fz03 W0 E0.out; have W0z04 := fz04 W0 E0.out; have W0z05 := fz05 W0 E0.out; have W0z10 := fz10 W0 E0.out; have W0z11 := fz11 W0 E0.out; have W0z12 := fz12 W0 E0.out; have W0z13 := fz13 W0 E0.out; have W0z14 := fz14 W0 E0.out; have W0z15 := fz15 W0 E0.out; have W0z20 := fz20 W0 E0.out; have W0z21 := fz21 W0 E0.out; have W0z30 := fz30 W0 E0.out; have W0z31 := fz31 W0 E0.out
  go_wp2_with (first
    | (go_at_call 28; (with_reducible refine (CFa.out _ e0).mono ?_); rintro e w1 ⟨rfl, hx⟩; have Ew1 : Ext W0 w1 := Ext.trans e0 hx; have w1z00 := fz00 w1 Ew1; have w1z01 := fz01 w1 Ew1; have w1z02 := fz02 w1 Ew1; have w1z03 := fz03 w1 Ew1; have w1z04 := fz04 w1 Ew1; have w1z05 := fz05 w1 Ew1; have w1z10 := fz10 w1 Ew1; have w1z11 := fz11 w1 Ew1; have w1z12 := fz12 w1 Ew1; have w1z13 := fz13 w1 Ew1; have w1z14 := fz14 w1 Ew1; have w1z15 := fz15 w1 Ew1; have w1z20 := fz20 w1 Ew1; have w1z21 := fz21 w1 Ew1; have w1z30 := fz30 w1 Ew1; have w1z31 := fz31 w1 Ew1; clear hx)
    | (go_at_call 28; (with_reducible refine (CFb.out _ Ew1).mono ?_); rintro e w2 ⟨rfl, hx⟩; have Ew2 : Ext W0 w2 := Ext.trans Ew1 hx; have w2z00 := fz00 w2 Ew2; have w2z01 := fz01 w2 Ew2; have w2z02 := fz02 w2 Ew2; have w2z03 := fz03 w2 Ew2; have w2z04 := fz04 w2 Ew2; have w2z05 := fz05 w2 Ew2; have w2z10 := fz10 w2 Ew2; have w2z11 := fz11 w2 Ew2; have w2z12 := fz12 w2 Ew2; have w2z13 := fz13 w2 Ew2; have w2z14 := fz14 w2 Ew2; have w2z15 := fz15 w2 Ew2; have w2z20 := fz20 w2 Ew2; have w2z21 := fz21 w2 Ew2; have w2z30 := fz30 w2 Ew2; have w2z31 := fz31 w2 Ew2; clear hx)
    | (go_at_call 31; (with_reducible refine (CPa.out _ Ew2).mono ?_); rintro e w3 ⟨Aa, ca, rfl, hsx, hx⟩; have Ew3 : Ext W0 w3 := Ext.trans Ew2 hx; have w3z00 := fz00 w3 Ew3; have w3z01 := fz01 w3 Ew3; have w3z02 := fz02 w3 Ew3; have w3z03 := fz03 w3 Ew3; have w3z04 := fz04 w3 Ew3; have w3z05 := fz05 w3 Ew3; have w3z10 := fz10 w3 Ew3; have w3z11 := fz11 w3 Ew3; have w3z12 := fz12 w3 Ew3; have w3z13 := fz13 w3 Ew3; have w3z14 := fz14 w3 Ew3; have w3z15 := fz15 w3 Ew3; have w3z20 := fz20 w3 Ew3; have w3z21 := fz21 w3 Ew3; have w3z30 := fz30 w3 Ew3; have w3z31 := fz31 w3 Ew3; have HSA := Lib.hid hsx; clear hsx; clear hx)
    | (go_at_call 31; (with_reducible refine (CPb.out _ Ew3).mono ?_); rintro e w4 ⟨rfl, hx⟩; have Ew4 : Ext W0 w4 := Ext.trans Ew3 hx; have w4z00 := fz00 w4 Ew4; have w4z01 := fz01 w4 Ew4; have w4z02 := fz02 w4 Ew4; have w4z03 := fz03 w4 Ew4; have w4z04 := fz04 w4 Ew4; have w4z05 := fz05 w4 Ew4; have w4z10 := fz10 w4 Ew4; have w4z11 := fz11 w4 Ew4; have w4z12 := fz12 w4 Ew4; have w4z13 := fz13 w4 Ew4; have w4z14 := fz14 w4 Ew4; have w4z15 := fz15 w4 Ew4; have w4z20 := fz20 w4 Ew4; have w4z21 := fz21 w4 Ew4; have w4z30 := fz30 w4 Ew4; have w4z31 := fz31 w4 Ew4; clear hx))
  have EW4 := Lib.hid Ew4
  clear W0z00 W0z01 W0z02 W0z03 W0z04 W0z05 W0z10 W0z11 W0z12 W0z13 W0z14 W0z15 W0z20 W0z21 W0z30 W0z31 w1z00 w1z01 w1z02 w1z03 w1z04 w1z05 w1z10 w1z11 w1z12 w1z13 w1z14 w1z15 w1z20 w1z21 w1z30 w1z31 w2z00 w2z01 w2z02 w2z03 w2z04 w2z05 w2z10 w2z11 w2z12 w2z13 w2z14 w2z15 w2z20 w2z21 w2z30 w2z31 w3z00 w3z01 w3z02 w3z03 w3z04 w3z05 w3z10 w3z11 w3z12 w3z13 w3z14 w3z15 w3z20 w3z21 w3z30 w3z31 w4z00 w4z01 w4z02 w4z03 w4z04 w4z05 w4z10 w4z11 w4z12 w4z13 w4z14 w4z15 w4z20 w4z21 w4z30 w4z31 Ew1 Ew2 Ew3 Ew4
  refine ext_begin (by kernel_rfl) ?_
  have EW4d := Lib.hid (Ext.drewR EW4.out)
  refine ext_take (i := 0) (v := ?_) rfl (by kernel_rfl) (by kernel_rfl) (by kernel_rfl) (fun _ _ _ h => h) (by rfl) ?_ ?_
  rotate_left
  · intro W hW; have hW0 := Ext.trans EW4d.out hW; clear hW; go_simp <;> with_reducible rfl
  try simp only [Act.put, List.setIfInBounds_toArray, List.set_cons_zero, List.set_cons_succ]
  refine ext_take (i := 1) (v := ?_) rfl (by kernel_rfl) (by kernel_rfl) (by kernel_rfl) (fun _ _ _ h => h) (by rfl) ?_ ?_
  rotate_left
  · intro W hW; have hW0 := Ext.trans EW4d.out hW; clear hW; go_simp <;> with_reducible rfl
  try simp only [Act.put, List.setIfInBounds_toArray, List.set_cons_zero, List.set_cons_succ]
  refine ext_take (i := 2) (v := ?_) rfl (by kernel_rfl) (by kernel_rfl) (by kernel_rfl) (fun _ _ _ h => h) (by rfl) ?_ ?_
  rotate_left
  · intro W hW; have hW0 := Ext.trans EW4d.out hW; clear hW; go_simp <;> with_reducible rfl
  try simp only [Act.put, List.setIfInBounds_toArray, List.set_cons_zero, List.set_cons_succ]
  refine ext_take (i := 3) (v := ?_) rfl (by kernel_rfl) (by kernel_rfl) (by kernel_rfl) (fun _ _ _ h => h) (by rfl) ?_ ?_
  rotate_left
  · intro W hW; have hW0 := Ext.trans EW4d.out hW; clear hW; go_simp <;> with_reducible rfl
  try simp only [Act.put, List.setIfInBounds_toArray, List.set_cons_zero, List.set_cons_succ]
  refine ext_take (i := 4) (v := ?_) rfl (by kernel_rfl) (by kernel_rfl) (by kernel_rfl) (fun _ _ _ h => h) (by rfl) ?_ ?_
  rotate_left
  · intro W hW; have hW0 := Ext.trans EW4d.out hW; clear hW; go_simp <;> with_reducible rfl
  try simp only [Act.put, List.setIfInBounds_toArray, List.set_cons_zero, List.set_cons_succ]
  refine ext_take (i := 5) (v := ?_) rfl (by kernel_rfl) (by kernel_rfl) (by kernel_rfl) (fun _ _ _ h => h) (by rfl) ?_ ?_
  rotate_left
  · intro W hW; have hW0 := Ext.trans EW4d.out hW; clear hW; go_simp <;> with_reducible rfl
  try simp only [Act.put, List.setIfInBounds_toArray, List.set_cons_zero, List.set_cons_succ]
  refine ext_take (i := 6) (v := ?_) rfl (by kernel_rfl) (by kernel_rfl) (by kernel_rfl) (fun _ _ _ h => h) (by rfl) ?_ ?_
  rotate_left
  · intro W hW; have hW0 := Ext.trans EW4d.out hW; clear hW; go_simp <;> with_reducible rfl
  try simp only [Act.put, List.setIfInBounds_toArray, List.set_cons_zero, List.set_cons_succ]
  refine ext_skip (i := 7) rfl (by kernel_rfl) (by kernel_rfl) (by kernel_rfl) (fun _ _ _ h => h) (by rfl) ?_
  try simp only [Act.put, List.setIfInBounds_toArray, List.set_cons_zero, List.set_cons_succ]
  refine ext_skip (i := 8) rfl (by kernel_rfl) (by kernel_rfl) (by kernel_rfl) (fun _ _ _ h => h) (by rfl) ?_
  try simp only [Act.put, List.setIfInBounds_toArray, List.set_cons_zero, List.set_cons_succ]
  refine ext_skip (i := 9) rfl (by kernel_rfl) (by kernel_rfl) (by kernel_rfl) (fun _ _ _ h => h) (by rfl) ?_
  try simp only [Act.put, List.setIfInBounds_toArray, List.set_cons_zero, List.set_cons_succ]
  refine ext_skip (i := 10) rfl (by kernel_rfl) (by kernel_rfl) (by kernel_rfl) (fun _ _ _ h => h) (by rfl) ?_
  try simp only [Act.put, List.setIfInBounds_toArray, List.set_cons_zero, List.set_cons_succ]
  refine ext_skip (i := 11) rfl (by kernel_rfl) (by kernel_rfl) (by kernel_rfl) (fun _ _ _ h => h) (by rfl) ?_
  try simp only [Act.put, List.setIfInBounds_toArray, List.set_cons_zero, List.set_cons_succ]
  refine ext_skip (i := 12) rfl (by kernel_rfl) (by kernel_rfl) (by kernel_rfl) (fun _ _ _ h => h) (by rfl) ?_
  try simp only [Act.put, List.setIfInBounds_toArray, List.set_cons_zero, List.set_cons_succ]
  refine ext_skip (i := 13) rfl (by kernel_rfl) (by kernel_rfl) (by kernel_rfl) (fun _ _ _ h => h) (by rfl) ?_
  try simp only [Act.put, List.setIfInBounds_toArray, List.set_cons_zero, List.set_cons_succ]
  refine ext_skip (i := 14) rfl (by kernel_rfl) (by kernel_rfl) (by kernel_rfl) (fun _ _ _ h => h) (by rfl) ?_
  try simp only [Act.put, List.setIfInBounds_toArray, List.set_cons_zero, List.set_cons_succ]
  refine ext_skip (i := 15) rfl (by kernel_rfl) (by kernel_rfl) (by kernel_rfl) (fun _ _ _ h => h) (by rfl) ?_
  try simp only [Act.put, List.setIfInBounds_toArray, List.set_cons_zero, List.set_cons_succ]
  refine ext_take (i := 16) (v := ?_) rfl (by kernel_rfl) (by kernel_rfl) (by kernel_rfl) (fun _ _ _ h => h) (by rfl) ?_ ?_
  rotate_left
  · intro W hW; have hW0 := Ext.trans EW4d.out hW; clear hW; go_simp <;> with_reducible rfl
  try simp only [Act.put, List.setIfInBounds_toArray, List.set_cons_zero, List.set_cons_succ]
  refine wpAnyH_done (by kernel_rfl) ?_ _
  have EX := Lib.hid EW4d.out
  clear EW4d
  have ex := EX.out
  have wd20 := fz20 _ ex
  have wd21 := fz21 _ ex
  have wd30 := fz30 _ ex
  have wd31 := fz31 _ ex
  go_wp2_with (first
    | (go_at_call 38; (with_reducible refine (CPc.out _ ex).mono ?_); rintro e w5 ⟨Ac, cc, rfl, hsx, hx⟩; have Ew5 : Ext W0 w5 := Ext.trans ex hx; have w5z20 := fz20 w5 Ew5; have w5z21 := fz21 w5 Ew5; have w5z30 := fz30 w5 Ew5; have w5z31 := fz31 w5 Ew5; have HSc := Lib.hid hsx; clear hsx; clear hx)
    | (go_at_call 38; (with_reducible refine (CPd.out _ Ew5).mono ?_); rintro e w6 ⟨rfl, hx⟩; have Ew6 : Ext W0 w6 := Ext.trans Ew5 hx; have w6z20 := fz20 w6 Ew6; have w6z21 := fz21 w6 Ew6; have w6z30 := fz30 w6 Ew6; have w6z31 := fz31 w6 Ew6; clear hx)
    | (go_at_call 29; (with_reducible refine (HT.out _ Ew6).mono ?_); rintro e w7 ⟨rfl, hx⟩; have Ew7 : Ext W0 w7 := Ext.trans Ew6 hx; clear hx))
  try go_ret
  exact hD.out _ _ ⟨rfl, Ext.trans HX0.out Ew7⟩

set_option maxRecDepth 8000 in
set_option maxHeartbeats 16000000 in
theorem apart_1_2 (c s k i m : Int) (d : ByteArray) (c2 s2 k2 i2 m2 : Int) (d2 : ByteArray) (ep1 : Int) (A1 : Option Addr) (cap1 n1 : Nat) (ep2 : Int) (A2 : Option Addr) (cap2 n2 : Nat) (w : World) (hd : d.size ≤ 300) (hd2 : d2.size ≤ 300) (hm : mayReqB c s k i m d.size = true) (hm2 : mayReqB c2 s2 k2 i2 m2 d2.size = false) (l1 l2 : List Int) (hn1 : n1 = l1.length) (hn2 : n2 = l2.length) (h1 : n1 ≤ 8) (h2 : n2 ≤ 8) (hc1 : l1.length ≤ cap1) (hc2 : l2.length ≤ cap2) (hs1 : Sl i64 w A1 l1) (hs2 : Sl i64 w A2 l2) (hmc : mayChainB ep1 l1 = true) (hmd : mayChainB ep2 l2 = true) :
    Calls Try.prog 11 #[.agg #[.int .i64 c, .int .i64 s, .int .i64 k, .int .i64 i, .int .i64 m, .string d], .agg #[.int .i64 c2, .int .i64 s2, .int .i64 k2, .int .i64 i2, .int .i64 m2, .string d2], .agg #[.int .i64 ep1, .slice A1 n1 cap1], .agg #[.int .i64 ep2, .slice A2 n2 cap2]] w fun e w' => e = .returned (.bool true) ∧ Below w.heap.size w w' := by
  refine hide_post fun D hD => ?_
  obtain ⟨W0, hW0⟩ : ∃ W0, W0 = ((((w.alloc (.cells #[.int .i64 c, .int .i64 s, .int .i64 k, .int .i64 i, .int .i64 m, .string d] 30)).alloc (.cells #[.int .i64 c2, .int .i64 s2, .int .i64 k2, .int .i64 i2, .int .i64 m2, .string d2] 30)).alloc (.cells #[.int .i64 ep1, .slice A1 n1 cap1] 39)).alloc (.cells #[.int .i64 ep2, .slice A2 n2 cap2] 39)) := ⟨_, rfl⟩
  have hx0 : Ext w W0 := by rw [hW0]; exact Ext.trans (Ext.trans (Ext.trans (Ext.alloc _ _) (Ext.alloc _ _)) (Ext.alloc _ _)) (Ext.alloc _ _)
  have kb0 : Blk W0 w.heap.size 30 #[.int .i64 c, .int .i64 s, .int .i64 k, .int .i64 i, .int .i64 m, .string d] := by rw [hW0]; exact (((Blk.new _ _ _).alloc _).alloc _).alloc _
  have fz00 : ∀ V, Ext W0 V → V.cell? ⟨w.heap.size, 0, none⟩ = some (.int .i64 c) := fun V h => (kb0.stay h).cell 0
  have fz01 : ∀ V, Ext W0 V → V.cell? ⟨w.heap.size, 1, none⟩ = some (.int .i64 s) := fun V h => (kb0.stay h).cell 1
  have fz02 : ∀ V, Ext W0 V → V.cell? ⟨w.heap.size, 2, none⟩ = some (.int .i64 k) := fun V h => (kb0.stay h).cell 2
  have fz03 : ∀ V, Ext W0 V → V.cell? ⟨w.heap.size, 3, none⟩ = some (.int .i64 i) := fun V h => (kb0.stay h).cell 3
  have fz04 : ∀ V, Ext W0 V → V.cell? ⟨w.heap.size, 4, none⟩ = some (.int .i64 m) := fun V h => (kb0.stay h).cell 4
  have fz05 : ∀ V, Ext W0 V → V.cell? ⟨w.heap.size, 5, none⟩ = some (.string d) := fun V h => (kb0.stay h).cell 5
  have kb1 : Blk W0 (w.heap.size + 1) 30 #[.int .i64 c2, .int .i64 s2, .int .i64 k2, .int .i64 i2, .int .i64 m2, .string d2] := by rw [hW0]; exact ((Blk.new' _ _ _ _ (by simp)).alloc _).alloc _
  have fz10 : ∀ V, Ext W0 V → V.cell? ⟨(w.heap.size + 1), 0, none⟩ = some (.int .i64 c2) := fun V h => (kb1.stay h).cell 0
  have fz11 : ∀ V, Ext W0 V → V.cell? ⟨(w.heap.size + 1), 1, none⟩ = some (.int .i64 s2) := fun V h => (kb1.stay h).cell 1
  have fz12 : ∀ V, Ext W0 V → V.cell? ⟨(w.heap.size + 1), 2, none⟩ = some (.int .i64 k2) := fun V h => (kb1.stay h).cell 2
  have fz13 : ∀ V, Ext W0 V → V.cell? ⟨(w.heap.size + 1), 3, none⟩ = some (.int .i64 i2) := fun V h => (kb1.stay h).cell 3
  have fz14 : ∀ V, Ext W0 V → V.cell? ⟨(w.heap.size + 1), 4, none⟩ = some (.int .i64 m2) := fun V h => (kb1.stay h).cell 4
  have fz15 : ∀ V, Ext W0 V → V.cell? ⟨(w.heap.size + 1), 5, none⟩ = some (.string d2) := fun V h => (kb1.stay h).cell 5
  have kb2 : Blk W0 (w.heap.size + 1 + 1) 39 #[.int .i64 ep1, .slice A1 n1 cap1] := by rw [hW0]; exact (Blk.new' _ _ _ _ (by simp)).alloc _
  have fz20 : ∀ V, Ext W0 V → V.cell? ⟨(w.heap.size + 1 + 1), 0, none⟩ = some (.int .i64 ep1) := fun V h => (kb2.stay h).cell 0
  have fz21 : ∀ V, Ext W0 V → V.cell? ⟨(w.heap.size + 1 + 1), 1, none⟩ = some (.slice A1 n1 cap1) := fun V h => (kb2.stay h).cell 1
  have kb3 : Blk W0 (w.heap.size + 1 + 1 + 1) 39 #[.int .i64 ep2, .slice A2 n2 cap2] := by rw [hW0]; exact Blk.new' _ _ _ _ (by simp)
  have fz30 : ∀ V, Ext W0 V → V.cell? ⟨(w.heap.size + 1 + 1 + 1), 0, none⟩ = some (.int .i64 ep2) := fun V h => (kb3.stay h).cell 0
  have fz31 : ∀ V, Ext W0 V → V.cell? ⟨(w.heap.size + 1 + 1 + 1), 1, none⟩ = some (.slice A2 n2 cap2) := fun V h => (kb3.stay h).cell 1
  have HW0 := Lib.hid hW0
  have HX0 := Lib.hid hx0
  have E0 : Hid (Ext W0 W0) := Ext.refl _
  have HT : Hid (∀ V, Ext W0 V → Calls Try.prog 29 #[] V fun e w' => e = .returned (.bool true) ∧ Ext V w') := fun V _ => told2 V
  have hdm : d.size ≤ maxLen := by unfold maxLen; omega
  have hdm2 : d2.size ≤ maxLen := by unfold maxLen; omega
  have CFa : Hid (∀ V, Ext W0 V → Calls Try.prog 28 #[.agg #[.int .i64 c, .int .i64 s, .int .i64 k, .int .i64 i, .int .i64 m, .string d]] V fun e w' => e = .returned (.bool true) ∧ Ext V w') := fun V _ => by have h := few_any c s k i m d V hdm; rw [decide_eq_true hd] at h; exact h
  have CFb : Hid (∀ V, Ext W0 V → Calls Try.prog 28 #[.agg #[.int .i64 c2, .int .i64 s2, .int .i64 k2, .int .i64 i2, .int .i64 m2, .string d2]] V fun e w' => e = .returned (.bool true) ∧ Ext V w') := fun V _ => by have h := few_any c2 s2 k2 i2 m2 d2 V hdm2; rw [decide_eq_true hd2] at h; exact h
  obtain ⟨qa, qam, qae⟩ := rq_of hm
  obtain ⟨XA, hXA⟩ : ∃ L, L = putB qa := ⟨_, rfl⟩
  obtain ⟨x1, hx1⟩ : ∃ n, n = (putB qa).length := ⟨_, rfl⟩
  have CPa : Hid (∀ V, Ext W0 V → Calls Try.prog 31 #[.agg #[.int .i64 c, .int .i64 s, .int .i64 k, .int .i64 i, .int .i64 m, .string d]] V fun e w' => ∃ A' c', e = .returned (.tuple #[.slice A' x1 c', .int .i64 0]) ∧ Sl Go.Proofs.Ytdbnaflaobncgaa.u8 w' A' XA ∧ Ext V w') := fun V hV => by
    rw [qae, hx1, hXA]; exact putReq_yes qa V qam
  have CPb : Hid (∀ V, Ext W0 V → Calls Try.prog 31 #[.agg #[.int .i64 c2, .int .i64 s2, .int .i64 k2, .int .i64 i2, .int .i64 m2, .string d2]] V fun e w' => e = .returned (.tuple #[.slice none 0 0, .int .i64 1]) ∧ Ext V w') := fun V hV => by
    exact putReq_no c2 s2 k2 i2 m2 d2 V hdm2 hm2
  obtain ⟨e7, ns7, he7, hl7⟩ := mayChainB_ints hmc
  obtain ⟨X7, hX7⟩ : ∃ L, L = putC e7 ns7 := ⟨_, rfl⟩
  obtain ⟨z7, hz7⟩ : ∃ n, n = (putC e7 ns7).length := ⟨_, rfl⟩
  have CPc : Hid (∀ V, Ext W0 V → Calls Try.prog 38 #[.agg #[.int .i64 ep1, .slice A1 n1 cap1]] V fun e w' => ∃ A' c', e = .returned (.tuple #[.slice A' z7 c', .int .i64 0]) ∧ Sl Go.Proofs.Ytdbnaflaobncgaa.u8 w' A' X7 ∧ Ext V w') := fun V hV => by
    have h := putChain_yes e7 A1 cap1 ns7 V (by rw [hl7, ints_len] at hc1; exact hc1) (by rw [← hl7]; exact hs1.stay (Ext.trans hx0 hV)) (by rw [← he7, ← hl7]; exact hmc)
    rw [he7, hn1, hl7, ints_len, hz7, hX7]
    exact h
  obtain ⟨e8, ns8, he8, hl8⟩ := mayChainB_ints hmd
  obtain ⟨X8, hX8⟩ : ∃ L, L = putC e8 ns8 := ⟨_, rfl⟩
  obtain ⟨z8, hz8⟩ : ∃ n, n = (putC e8 ns8).length := ⟨_, rfl⟩
  have CPd : Hid (∀ V, Ext W0 V → Calls Try.prog 38 #[.agg #[.int .i64 ep2, .slice A2 n2 cap2]] V fun e w' => ∃ A' c', e = .returned (.tuple #[.slice A' z8 c', .int .i64 0]) ∧ Sl Go.Proofs.Ytdbnaflaobncgaa.u8 w' A' X8 ∧ Ext V w') := fun V hV => by
    have h := putChain_yes e8 A2 cap2 ns8 V (by rw [hl8, ints_len] at hc2; exact hc2) (by rw [← hl8]; exact hs2.stay (Ext.trans hx0 hV)) (by rw [← he8, ← hl8]; exact hmd)
    rw [he8, hn2, hl8, ints_len, hz8, hX8]
    exact h
  obtain ⟨sc, hsc⟩ : ∃ z, z = str X7 := ⟨_, rfl⟩
  obtain ⟨sd, hsd⟩ : ∃ z, z = str X8 := ⟨_, rfl⟩
  have HVC : Hid (∀ V A' c', Sl Go.Proofs.Ytdbnaflaobncgaa.u8 V A' X7 → ∀ W, Ext V W → (convert 54 9 (.slice A' z7 c')).run Try.prog W = .ok (.string sc) W) := fun V A' c' h W hW => by
    have := run_str (P := Try.prog) (w := W) 54 9 5 A' X7 c' Try.underlying54 Try.underlying5 Try.underlying9 (h.stay hW)
    rw [hz7, hsc, ← hX7]
    exact this
  have HVD : Hid (∀ V A' c', Sl Go.Proofs.Ytdbnaflaobncgaa.u8 V A' X8 → ∀ W, Ext V W → (convert 54 9 (.slice A' z8 c')).run Try.prog W = .ok (.string sd) W) := fun V A' c' h W hW => by
    have := run_str (P := Try.prog) (w := W) 54 9 5 A' X8 c' Try.underlying54 Try.underlying5 Try.underlying9 (h.stay hW)
    rw [hz8, hsd, ← hX8]
    exact this
  have HSS : Hid (sc = sd ↔ (ep1 = ep2 ∧ l1 = l2)) := by
    show _ ↔ _
    constructor
    · intro e
      have e2 : X7 = X8 := by rw [hsc, hsd] at e; exact str_inj e
      rw [hX7, hX8] at e2
      obtain ⟨g1, g2, _⟩ := putC_inj (r := []) (r' := []) (by rw [← he7, ← hl7]; exact hmc) (by rw [← he8, ← hl8]; exact hmd) (by rw [e2])
      exact ⟨by rw [he7, he8, g1], by rw [hl7, hl8, g2]⟩
    · rintro ⟨g1, g2⟩
      have g3 : e7 = e8 := by rw [he7, he8] at g1; omega
      have g4 : ns7 = ns8 := by rw [hl7, hl8] at g2; exact ints_inj g2
      rw [hsc, hsd, hX7, hX8, g3, g4]
  have HL1 : Hid (n1 = l1.length) := hn1
  have HL2 : Hid (n2 = l2.length) := hn2
  have HSC : Hid (∀ V, Ext W0 V → Sl i64 V A1 l1) := fun V hV => hs1.stay (Ext.trans hx0 hV)
  have HSD : Hid (∀ V, Ext W0 V → Sl i64 V A2 l2) := fun V hV => hs2.stay (Ext.trans hx0 hV)
  have b1 : ¬ (8 : Int) < (n1 : Int) := by omega
  have b2 : ¬ (8 : Int) < (n2 : Int) := by omega
  clear kb0 kb1 kb2 kb3 hx0 hW0 hdm hd hdm2 hd2 hm hm2 hn1 hn2 hc1 hc2 hs1 hs2 hmc hmd qae qam hx1 hXA he7 hl7 hX7 hz7 he8 hl8 hX8 hz8 hsc hsd
  go_enter Try.func11, Try.ntmps11
  go_wp2_with fail
  rw [← HW0.out]
  have e0 := E0.out
  have W0z00 := fz00 W0 E0.out; have W0z01 := fz01 W0 E0.out; have W0z02 := fz02 W0 E0.out; have W0z03 := fz03 W0 E0.out; have W0z04 := fz04 W0 E0.out; have W0z05 := fz05 W0 E0.out; have W0z10 := fz10 W0 E0.out; have W0z11 := fz11 W0 E0.out; have W0z12 := fz12 W0 E0.out; have W0z13 := fz13 W0 E0.out; have W0z14 := fz14 W0 E0.out; have W0z15 := fz15 W0 E0.out; have W0z20 := fz20 W0 E0.out; have W0z21 := fz21 W0 E0.out; have W0z30 := fz30 W0 E0.out; have W0z31 := fz31 W0 E0.out
  go_wp2_with (first
    | (go_at_call 28; (with_reducible refine (CFa.out _ e0).mono ?_); rintro e w1 ⟨rfl, hx⟩; have Ew1 : Ext W0 w1 := Ext.trans e0 hx; have w1z00 := fz00 w1 Ew1; have w1z01 := fz01 w1 Ew1; have w1z02 := fz02 w1 Ew1; have w1z03 := fz03 w1 Ew1; have w1z04 := fz04 w1 Ew1; have w1z05 := fz05 w1 Ew1; have w1z10 := fz10 w1 Ew1; have w1z11 := fz11 w1 Ew1; have w1z12 := fz12 w1 Ew1; have w1z13 := fz13 w1 Ew1; have w1z14 := fz14 w1 Ew1; have w1z15 := fz15 w1 Ew1; have w1z20 := fz20 w1 Ew1; have w1z21 := fz21 w1 Ew1; have w1z30 := fz30 w1 Ew1; have w1z31 := fz31 w1 Ew1; clear hx)
    | (go_at_call 28; (with_reducible refine (CFb.out _ Ew1).mono ?_); rintro e w2 ⟨rfl, hx⟩; have Ew2 : Ext W0 w2 := Ext.trans Ew1 hx; have w2z00 := fz00 w2 Ew2; have w2z01 := fz01 w2 Ew2; have w2z02 := fz02 w2 Ew2; have w2z03 := fz03 w2 Ew2; have w2z04 := fz04 w2 Ew2; have w2z05 := fz05 w2 Ew2; have w2z10 := fz10 w2 Ew2; have w2z11 := fz11 w2 Ew2; have w2z12 := fz12 w2 Ew2; have w2z13 := fz13 w2 Ew2; have w2z14 := fz14 w2 Ew2; have w2z15 := fz15 w2 Ew2; have w2z20 := fz20 w2 Ew2; have w2z21 := fz21 w2 Ew2; have w2z30 := fz30 w2 Ew2; have w2z31 := fz31 w2 Ew2; clear hx)
    | (go_at_call 31; (with_reducible refine (CPa.out _ Ew2).mono ?_); rintro e w3 ⟨Aa, ca, rfl, hsx, hx⟩; have Ew3 : Ext W0 w3 := Ext.trans Ew2 hx; have w3z00 := fz00 w3 Ew3; have w3z01 := fz01 w3 Ew3; have w3z02 := fz02 w3 Ew3; have w3z03 := fz03 w3 Ew3; have w3z04 := fz04 w3 Ew3; have w3z05 := fz05 w3 Ew3; have w3z10 := fz10 w3 Ew3; have w3z11 := fz11 w3 Ew3; have w3z12 := fz12 w3 Ew3; have w3z13 := fz13 w3 Ew3; have w3z14 := fz14 w3 Ew3; have w3z15 := fz15 w3 Ew3; have w3z20 := fz20 w3 Ew3; have w3z21 := fz21 w3 Ew3; have w3z30 := fz30 w3 Ew3; have w3z31 := fz31 w3 Ew3; have HSA := Lib.hid hsx; clear hsx; clear hx)
    | (go_at_call 31; (with_reducible refine (CPb.out _ Ew3).mono ?_); rintro e w4 ⟨rfl, hx⟩; have Ew4 : Ext W0 w4 := Ext.trans Ew3 hx; have w4z00 := fz00 w4 Ew4; have w4z01 := fz01 w4 Ew4; have w4z02 := fz02 w4 Ew4; have w4z03 := fz03 w4 Ew4; have w4z04 := fz04 w4 Ew4; have w4z05 := fz05 w4 Ew4; have w4z10 := fz10 w4 Ew4; have w4z11 := fz11 w4 Ew4; have w4z12 := fz12 w4 Ew4; have w4z13 := fz13 w4 Ew4; have w4z14 := fz14 w4 Ew4; have w4z15 := fz15 w4 Ew4; have w4z20 := fz20 w4 Ew4; have w4z21 := fz21 w4 Ew4; have w4z30 := fz30 w4 Ew4; have w4z31 := fz31 w4 Ew4; clear hx))
  have EW4 := Lib.hid Ew4
  clear W0z00 W0z01 W0z02 W0z03 W0z04 W0z05 W0z10 W0z11 W0z12 W0z13 W0z14 W0z15 W0z20 W0z21 W0z30 W0z31 w1z00 w1z01 w1z02 w1z03 w1z04 w1z05 w1z10 w1z11 w1z12 w1z13 w1z14 w1z15 w1z20 w1z21 w1z30 w1z31 w2z00 w2z01 w2z02 w2z03 w2z04 w2z05 w2z10 w2z11 w2z12 w2z13 w2z14 w2z15 w2z20 w2z21 w2z30 w2z31 w3z00 w3z01 w3z02 w3z03 w3z04 w3z05 w3z10 w3z11 w3z12 w3z13 w3z14 w3z15 w3z20 w3z21 w3z30 w3z31 w4z00 w4z01 w4z02 w4z03 w4z04 w4z05 w4z10 w4z11 w4z12 w4z13 w4z14 w4z15 w4z20 w4z21 w4z30 w4z31 Ew1 Ew2 Ew3 Ew4
  refine ext_begin (by kernel_rfl) ?_
  have EW4d := Lib.hid (Ext.drewR EW4.out)
  refine ext_take (i := 0) (v := ?_) rfl (by kernel_rfl) (by kernel_rfl) (by kernel_rfl) (fun _ _ _ h => h) (by rfl) ?_ ?_
  rotate_left
  · intro W hW; have hW0 := Ext.trans EW4d.out hW; clear hW; go_simp <;> with_reducible rfl
  try simp only [Act.put, List.setIfInBounds_toArray, List.set_cons_zero, List.set_cons_succ]
  refine ext_take (i := 1) (v := ?_) rfl (by kernel_rfl) (by kernel_rfl) (by kernel_rfl) (fun _ _ _ h => h) (by rfl) ?_ ?_
  rotate_left
  · intro W hW; have hW0 := Ext.trans EW4d.out hW; clear hW; go_simp <;> with_reducible rfl
  try simp only [Act.put, List.setIfInBounds_toArray, List.set_cons_zero, List.set_cons_succ]
  refine ext_take (i := 2) (v := ?_) rfl (by kernel_rfl) (by kernel_rfl) (by kernel_rfl) (fun _ _ _ h => h) (by rfl) ?_ ?_
  rotate_left
  · intro W hW; have hW0 := Ext.trans EW4d.out hW; clear hW; go_simp <;> with_reducible rfl
  try simp only [Act.put, List.setIfInBounds_toArray, List.set_cons_zero, List.set_cons_succ]
  refine ext_take (i := 3) (v := ?_) rfl (by kernel_rfl) (by kernel_rfl) (by kernel_rfl) (fun _ _ _ h => h) (by rfl) ?_ ?_
  rotate_left
  · intro W hW; have hW0 := Ext.trans EW4d.out hW; clear hW; go_simp <;> with_reducible rfl
  try simp only [Act.put, List.setIfInBounds_toArray, List.set_cons_zero, List.set_cons_succ]
  refine ext_take (i := 4) (v := ?_) rfl (by kernel_rfl) (by kernel_rfl) (by kernel_rfl) (fun _ _ _ h => h) (by rfl) ?_ ?_
  rotate_left
  · intro W hW; have hW0 := Ext.trans EW4d.out hW; clear hW; go_simp <;> with_reducible rfl
  try simp only [Act.put, List.setIfInBounds_toArray, List.set_cons_zero, List.set_cons_succ]
  refine ext_take (i := 5) (v := ?_) rfl (by kernel_rfl) (by kernel_rfl) (by kernel_rfl) (fun _ _ _ h => h) (by rfl) ?_ ?_
  rotate_left
  · intro W hW; have hW0 := Ext.trans EW4d.out hW; clear hW; go_simp <;> with_reducible rfl
  try simp only [Act.put, List.setIfInBounds_toArray, List.set_cons_zero, List.set_cons_succ]
  refine ext_take (i := 6) (v := ?_) rfl (by kernel_rfl) (by kernel_rfl) (by kernel_rfl) (fun _ _ _ h => h) (by rfl) ?_ ?_
  rotate_left
  · intro W hW; have hW0 := Ext.trans EW4d.out hW; clear hW; go_simp <;> with_reducible rfl
  try simp only [Act.put, List.setIfInBounds_toArray, List.set_cons_zero, List.set_cons_succ]
  refine ext_skip (i := 7) rfl (by kernel_rfl) (by kernel_rfl) (by kernel_rfl) (fun _ _ _ h => h) (by rfl) ?_
  try simp only [Act.put, List.setIfInBounds_toArray, List.set_cons_zero, List.set_cons_succ]
  refine ext_skip (i := 8) rfl (by kernel_rfl) (by kernel_rfl) (by kernel_rfl) (fun _ _ _ h => h) (by rfl) ?_
  try simp only [Act.put, List.setIfInBounds_toArray, List.set_cons_zero, List.set_cons_succ]
  refine ext_skip (i := 9) rfl (by kernel_rfl) (by kernel_rfl) (by kernel_rfl) (fun _ _ _ h => h) (by rfl) ?_
  try simp only [Act.put, List.setIfInBounds_toArray, List.set_cons_zero, List.set_cons_succ]
  refine ext_skip (i := 10) rfl (by kernel_rfl) (by kernel_rfl) (by kernel_rfl) (fun _ _ _ h => h) (by rfl) ?_
  try simp only [Act.put, List.setIfInBounds_toArray, List.set_cons_zero, List.set_cons_succ]
  refine ext_skip (i := 11) rfl (by kernel_rfl) (by kernel_rfl) (by kernel_rfl) (fun _ _ _ h => h) (by rfl) ?_
  try simp only [Act.put, List.setIfInBounds_toArray, List.set_cons_zero, List.set_cons_succ]
  refine ext_skip (i := 12) rfl (by kernel_rfl) (by kernel_rfl) (by kernel_rfl) (fun _ _ _ h => h) (by rfl) ?_
  try simp only [Act.put, List.setIfInBounds_toArray, List.set_cons_zero, List.set_cons_succ]
  refine ext_skip (i := 13) rfl (by kernel_rfl) (by kernel_rfl) (by kernel_rfl) (fun _ _ _ h => h) (by rfl) ?_
  try simp only [Act.put, List.setIfInBounds_toArray, List.set_cons_zero, List.set_cons_succ]
  refine ext_skip (i := 14) rfl (by kernel_rfl) (by kernel_rfl) (by kernel_rfl) (fun _ _ _ h => h) (by rfl) ?_
  try simp only [Act.put, List.setIfInBounds_toArray, List.set_cons_zero, List.set_cons_succ]
  refine ext_skip (i := 15) rfl (by kernel_rfl) (by kernel_rfl) (by kernel_rfl) (fun _ _ _ h => h) (by rfl) ?_
  try simp only [Act.put, List.setIfInBounds_toArray, List.set_cons_zero, List.set_cons_succ]
  refine ext_take (i := 16) (v := ?_) rfl (by kernel_rfl) (by kernel_rfl) (by kernel_rfl) (fun _ _ _ h => h) (by rfl) ?_ ?_
  rotate_left
  · intro W hW; have hW0 := Ext.trans EW4d.out hW; clear hW; go_simp <;> with_reducible rfl
  try simp only [Act.put, List.setIfInBounds_toArray, List.set_cons_zero, List.set_cons_succ]
  refine wpAnyH_done (by kernel_rfl) ?_ _
  have EX := Lib.hid EW4d.out
  clear EW4d
  have ex := EX.out
  have wd20 := fz20 _ ex
  have wd21 := fz21 _ ex
  have wd30 := fz30 _ ex
  have wd31 := fz31 _ ex
  by_cases hee : ep1 = ep2 ∧ n1 = n2
  · obtain ⟨rfl, hnn⟩ := hee
    subst hnn
    go_wp2_with (first
      | (go_at_call 38; (with_reducible refine (CPc.out _ ex).mono ?_); rintro e w5 ⟨Ac, cc, rfl, hsx, hx⟩; have Ew5 : Ext W0 w5 := Ext.trans ex hx; have w5z20 := fz20 w5 Ew5; have w5z21 := fz21 w5 Ew5; have w5z30 := fz30 w5 Ew5; have w5z31 := fz31 w5 Ew5; have HSc := Lib.hid hsx; clear hsx; clear hx)
      | (go_at_call 38; (with_reducible refine (CPd.out _ Ew5).mono ?_); rintro e w6 ⟨Ad, cd, rfl, hsx, hx⟩; have Ew6 : Ext W0 w6 := Ext.trans Ew5 hx; have w6z20 := fz20 w6 Ew6; have w6z21 := fz21 w6 Ew6; have w6z30 := fz30 w6 Ew6; have w6z31 := fz31 w6 Ew6; have HSd := Lib.hid hsx; have HSc2 : Hid (Sl Go.Proofs.Ytdbnaflaobncgaa.u8 w6 Ac X7) := HSc.out.stay hx; clear hsx; clear hx))
    go_loopw [17, 18] (fun b i wr => ∃ (k : Nat) (bv : Bool), k ≤ n1 ∧ b = .bool bv ∧ i = .int .i64 k ∧ Hid ((bv = true → l1.take k = l2.take k) ∧ (bv = false → ¬ l1 = l2)) ∧ Hid (Ext W0 wr ∧ Ext w6 wr)) (fun _ i _ => n1 - (intOf i).toNat)
    case atStart => exact ⟨0, true, Nat.zero_le _, rfl, rfl, ⟨fun _ => rfl, fun h => by simp at h⟩, Ew6, Ext.refl _⟩
    case round =>
      obtain ⟨k, bv, hk, rfl, rfl, HI, HE⟩ := hrel
      have eW := HE.out.1
      have eW6 := HE.out.2
      have wrz20 := fz20 wr eW; have wrz21 := fz21 wr eW; have wrz30 := fz30 wr eW; have wrz31 := fz31 wr eW
      cases bv with
      | false =>
        have hne := HI.out.2 rfl
        have hsn : ¬ sc.toList = sd.toList := fun e => hne (HSS.out.1 (Go.WideShapes.bytes_inj (by rw [← ByteArray.toList_eq, ← ByteArray.toList_eq]; exact e))).2
        clear HI
        go_wp2_with (go_at_call 29; (with_reducible refine (HT.out _ eW).mono ?_); rintro e w9 ⟨rfl, hx⟩; have E9 : Ext W0 w9 := Ext.trans eW hx; have hv1 := HVC.out _ Ac cc HSc2.out w9 (Ext.trans eW6 hx); have hv2 := HVD.out _ Ad cd HSd.out w9 (Ext.trans eW6 hx); clear hx)
        try go_ret
        first | exact hD.out _ _ ⟨rfl, Ext.trans HX0.out E9⟩ | exact hD.out _ _ ⟨ret_bool (show (!(sc.toList == sd.toList)) = true by simp [hsn]), Ext.trans HX0.out E9⟩
      | true =>
        have htk := Lib.hid (HI.out.1 rfl)
        clear HI
        by_cases hlt : k < n1
        · have hs1 := HSC.out _ eW
          have hs2 := HSD.out _ eW
          obtain ⟨g1, o1, rfl, hc1⟩ := hs1.at_ (k := k) (by have := HL1.out; omega)
          obtain ⟨g2, o2, rfl, hc2⟩ := hs2.at_ (k := k) (by have := HL2.out; omega)
          have hk1 : k < l1.length := by have := HL1.out; omega
          have hk2 : k < l2.length := by have := HL2.out; omega
          have HT1 : Hid (l1.take (k + 1) = l1.take k ++ [l1[k]]) := List.take_succ_eq_append_getElem hk1
          have HT2 : Hid (l2.take (k + 1) = l2.take k ++ [l2[k]]) := List.take_succ_eq_append_getElem hk2
          have HG : Hid (¬ l1[k] = l2[k] → ¬ l1 = l2) := fun h e => h (by subst e; rfl)
          clear hs1 hs2
          generalize l1[k] = x at *
          generalize l2[k] = y at *
          unfold i64 at hc1 hc2
          have hk0 : (0 : Int) ≤ (k : Int) := by omega
          have hk3 : (k : Int) < (n1 : Int) := by omega
          by_cases hxy : x = y
          · subst hxy
            go_wp2
            go_quiet (fail)
            go_wp2
            go_roundw
            case rel => exact ⟨k + 1, true, by omega, by first | rfl | simp, by go_num, ⟨fun _ => by rw [HT1.out, HT2.out, htk.out], fun h => by simp at h⟩, HE.out.1.drewN, HE.out.2.drewN⟩
            case measure => simp [intOf]; omega
          · have hn := HG.out hxy
            go_wp2
            go_quiet (fail)
            go_wp2
            go_roundw
            case rel => exact ⟨k + 1, false, by omega, by first | rfl | simp [hxy], by go_num, ⟨fun h => by simp at h, fun _ => hn⟩, HE.out.1.drewN, HE.out.2.drewN⟩
            case measure => simp [intOf]; omega
        · have hk3 : ¬ (k : Int) < (n1 : Int) := by omega
          have e1 : l1 = l2 := by
            have h := htk.out
            rw [List.take_of_length_le (by have := HL1.out; omega), List.take_of_length_le (by have := HL2.out; omega)] at h
            exact h
          have e2 : sc = sd := HSS.out.2 (by first | exact ⟨rfl, e1⟩ | exact ⟨trivial, e1⟩)
          subst e2
          go_wp2_with (go_at_call 29; (with_reducible refine (HT.out _ eW).mono ?_); rintro e w9 ⟨rfl, hx⟩; have E9 : Ext W0 w9 := Ext.trans eW hx; have hv1 := HVC.out _ Ac cc HSc2.out w9 (Ext.trans eW6 hx); have hv2 := HVD.out _ Ad cd HSd.out w9 (Ext.trans eW6 hx); clear hx)
          try go_ret
          first | exact hD.out _ _ ⟨rfl, Ext.trans HX0.out E9⟩ | exact hD.out _ _ ⟨ret_bool (show (!(sc.toList == sd.toList)) = true by simp [hsn]), Ext.trans HX0.out E9⟩
  · have hne : ¬ sc = sd := fun e => hee ⟨(HSS.out.1 e).1, by rw [HL1.out, HL2.out, (HSS.out.1 e).2]⟩
    have hsn : ¬ sc.toList = sd.toList := fun e => hne (Go.WideShapes.bytes_inj (by rw [← ByteArray.toList_eq, ← ByteArray.toList_eq]; exact e))
    by_cases hep : ep1 = ep2
    · subst hep
      have hnn : ¬ n1 = n2 := fun e => hee ⟨rfl, e⟩
      have hnn2 : ¬ (n1 : Int) = (n2 : Int) := by omega
      clear hee
      go_wp2_with (first
        | (go_at_call 38; (with_reducible refine (CPc.out _ ex).mono ?_); rintro e w5 ⟨Ac, cc, rfl, hsx, hx⟩; have Ew5 : Ext W0 w5 := Ext.trans ex hx; have w5z20 := fz20 w5 Ew5; have w5z21 := fz21 w5 Ew5; have w5z30 := fz30 w5 Ew5; have w5z31 := fz31 w5 Ew5; have HSc := Lib.hid hsx; clear hsx; clear hx)
        | (go_at_call 38; (with_reducible refine (CPd.out _ Ew5).mono ?_); rintro e w6 ⟨Ad, cd, rfl, hsx, hx⟩; have Ew6 : Ext W0 w6 := Ext.trans Ew5 hx; have w6z20 := fz20 w6 Ew6; have w6z21 := fz21 w6 Ew6; have w6z30 := fz30 w6 Ew6; have w6z31 := fz31 w6 Ew6; have HSd := Lib.hid hsx; have HSc2 : Hid (Sl Go.Proofs.Ytdbnaflaobncgaa.u8 w6 Ac X7) := HSc.out.stay hx; clear hsx; clear hx))
      go_loopw [17, 18] (fun b i wr => b = .bool false ∧ i = .int .i64 0 ∧ Hid (Ext W0 wr ∧ Ext w6 wr)) (fun _ _ _ => 0)
      case atStart => exact ⟨by first | rfl | (simp [hnn2]; done) | (simp; omega), rfl, Ew6, Ext.refl _⟩
      case round =>
        obtain ⟨rfl, rfl, HE⟩ := hrel
        have eW := HE.out.1
        have eW6 := HE.out.2
        have wrz20 := fz20 wr eW; have wrz21 := fz21 wr eW; have wrz30 := fz30 wr eW; have wrz31 := fz31 wr eW
        go_wp2_with (go_at_call 29; (with_reducible refine (HT.out _ eW).mono ?_); rintro e w9 ⟨rfl, hx⟩; have E9 : Ext W0 w9 := Ext.trans eW hx; have hv1 := HVC.out _ Ac cc HSc2.out w9 (Ext.trans eW6 hx); have hv2 := HVD.out _ Ad cd HSd.out w9 (Ext.trans eW6 hx); clear hx)
        try go_ret
        first | exact hD.out _ _ ⟨rfl, Ext.trans HX0.out E9⟩ | exact hD.out _ _ ⟨ret_bool (show (!(sc.toList == sd.toList)) = true by simp [hsn]), Ext.trans HX0.out E9⟩
    · clear hee
      go_wp2_with (first
        | (go_at_call 38; (with_reducible refine (CPc.out _ ex).mono ?_); rintro e w5 ⟨Ac, cc, rfl, hsx, hx⟩; have Ew5 : Ext W0 w5 := Ext.trans ex hx; have w5z20 := fz20 w5 Ew5; have w5z21 := fz21 w5 Ew5; have w5z30 := fz30 w5 Ew5; have w5z31 := fz31 w5 Ew5; have HSc := Lib.hid hsx; clear hsx; clear hx)
        | (go_at_call 38; (with_reducible refine (CPd.out _ Ew5).mono ?_); rintro e w6 ⟨Ad, cd, rfl, hsx, hx⟩; have Ew6 : Ext W0 w6 := Ext.trans Ew5 hx; have w6z20 := fz20 w6 Ew6; have w6z21 := fz21 w6 Ew6; have w6z30 := fz30 w6 Ew6; have w6z31 := fz31 w6 Ew6; have HSd := Lib.hid hsx; have HSc2 : Hid (Sl Go.Proofs.Ytdbnaflaobncgaa.u8 w6 Ac X7) := HSc.out.stay hx; clear hsx; clear hx))
      go_loopw [17, 18] (fun b i wr => b = .bool false ∧ i = .int .i64 0 ∧ Hid (Ext W0 wr ∧ Ext w6 wr)) (fun _ _ _ => 0)
      case atStart => exact ⟨by first | rfl | simp [hep], rfl, Ew6, Ext.refl _⟩
      case round =>
        obtain ⟨rfl, rfl, HE⟩ := hrel
        have eW := HE.out.1
        have eW6 := HE.out.2
        have wrz20 := fz20 wr eW; have wrz21 := fz21 wr eW; have wrz30 := fz30 wr eW; have wrz31 := fz31 wr eW
        go_wp2_with (go_at_call 29; (with_reducible refine (HT.out _ eW).mono ?_); rintro e w9 ⟨rfl, hx⟩; have E9 : Ext W0 w9 := Ext.trans eW hx; have hv1 := HVC.out _ Ac cc HSc2.out w9 (Ext.trans eW6 hx); have hv2 := HVD.out _ Ad cd HSd.out w9 (Ext.trans eW6 hx); clear hx)
        try go_ret
        first | exact hD.out _ _ ⟨rfl, Ext.trans HX0.out E9⟩ | exact hD.out _ _ ⟨ret_bool (show (!(sc.toList == sd.toList)) = true by simp [hsn]), Ext.trans HX0.out E9⟩

set_option maxRecDepth 8000 in
set_option maxHeartbeats 16000000 in
theorem apart_2_0 (c s k i m : Int) (d : ByteArray) (ep1 : Int) (A1 : Option Addr) (cap1 n1 : Nat) (ep2 : Int) (A2 : Option Addr) (cap2 n2 : Nat) (w : World) (hd : d.size ≤ 300) (hm : mayReqB c s k i m d.size = true) (l1 l2 : List Int) (hn1 : n1 = l1.length) (hn2 : n2 = l2.length) (h1 : n1 ≤ 8) (h2 : n2 ≤ 8) (hc1 : l1.length ≤ cap1) (hc2 : l2.length ≤ cap2) (hs1 : Sl i64 w A1 l1) (hs2 : Sl i64 w A2 l2) (hmc : mayChainB ep1 l1 = false) :
    Calls Try.prog 11 #[.agg #[.int .i64 c, .int .i64 s, .int .i64 k, .int .i64 i, .int .i64 m, .string d], .agg #[.int .i64 c, .int .i64 s, .int .i64 k, .int .i64 i, .int .i64 m, .string d], .agg #[.int .i64 ep1, .slice A1 n1 cap1], .agg #[.int .i64 ep2, .slice A2 n2 cap2]] w fun e w' => e = .returned (.bool true) ∧ Below w.heap.size w w' := by
  refine hide_post fun D hD => ?_
  obtain ⟨W0, hW0⟩ : ∃ W0, W0 = ((((w.alloc (.cells #[.int .i64 c, .int .i64 s, .int .i64 k, .int .i64 i, .int .i64 m, .string d] 30)).alloc (.cells #[.int .i64 c, .int .i64 s, .int .i64 k, .int .i64 i, .int .i64 m, .string d] 30)).alloc (.cells #[.int .i64 ep1, .slice A1 n1 cap1] 39)).alloc (.cells #[.int .i64 ep2, .slice A2 n2 cap2] 39)) := ⟨_, rfl⟩
  have hx0 : Ext w W0 := by rw [hW0]; exact Ext.trans (Ext.trans (Ext.trans (Ext.alloc _ _) (Ext.alloc _ _)) (Ext.alloc _ _)) (Ext.alloc _ _)
  have kb0 : Blk W0 w.heap.size 30 #[.int .i64 c, .int .i64 s, .int .i64 k, .int .i64 i, .int .i64 m, .string d] := by rw [hW0]; exact (((Blk.new _ _ _).alloc _).alloc _).alloc _
  have fz00 : ∀ V, Ext W0 V → V.cell? ⟨w.heap.size, 0, none⟩ = some (.int .i64 c) := fun V h => (kb0.stay h).cell 0
  have fz01 : ∀ V, Ext W0 V → V.cell? ⟨w.heap.size, 1, none⟩ = some (.int .i64 s) := fun V h => (kb0.stay h).cell 1
  have fz02 : ∀ V, Ext W0 V → V.cell? ⟨w.heap.size, 2, none⟩ = some (.int .i64 k) := fun V h => (kb0.stay h).cell 2
  have fz03 : ∀ V, Ext W0 V → V.cell? ⟨w.heap.size, 3, none⟩ = some (.int .i64 i) := fun V h => (kb0.stay h).cell 3
  have fz04 : ∀ V, Ext W0 V → V.cell? ⟨w.heap.size, 4, none⟩ = some (.int .i64 m) := fun V h => (kb0.stay h).cell 4
  have fz05 : ∀ V, Ext W0 V → V.cell? ⟨w.heap.size, 5, none⟩ = some (.string d) := fun V h => (kb0.stay h).cell 5
  have kb1 : Blk W0 (w.heap.size + 1) 30 #[.int .i64 c, .int .i64 s, .int .i64 k, .int .i64 i, .int .i64 m, .string d] := by rw [hW0]; exact ((Blk.new' _ _ _ _ (by simp)).alloc _).alloc _
  have fz10 : ∀ V, Ext W0 V → V.cell? ⟨(w.heap.size + 1), 0, none⟩ = some (.int .i64 c) := fun V h => (kb1.stay h).cell 0
  have fz11 : ∀ V, Ext W0 V → V.cell? ⟨(w.heap.size + 1), 1, none⟩ = some (.int .i64 s) := fun V h => (kb1.stay h).cell 1
  have fz12 : ∀ V, Ext W0 V → V.cell? ⟨(w.heap.size + 1), 2, none⟩ = some (.int .i64 k) := fun V h => (kb1.stay h).cell 2
  have fz13 : ∀ V, Ext W0 V → V.cell? ⟨(w.heap.size + 1), 3, none⟩ = some (.int .i64 i) := fun V h => (kb1.stay h).cell 3
  have fz14 : ∀ V, Ext W0 V → V.cell? ⟨(w.heap.size + 1), 4, none⟩ = some (.int .i64 m) := fun V h => (kb1.stay h).cell 4
  have fz15 : ∀ V, Ext W0 V → V.cell? ⟨(w.heap.size + 1), 5, none⟩ = some (.string d) := fun V h => (kb1.stay h).cell 5
  have kb2 : Blk W0 (w.heap.size + 1 + 1) 39 #[.int .i64 ep1, .slice A1 n1 cap1] := by rw [hW0]; exact (Blk.new' _ _ _ _ (by simp)).alloc _
  have fz20 : ∀ V, Ext W0 V → V.cell? ⟨(w.heap.size + 1 + 1), 0, none⟩ = some (.int .i64 ep1) := fun V h => (kb2.stay h).cell 0
  have fz21 : ∀ V, Ext W0 V → V.cell? ⟨(w.heap.size + 1 + 1), 1, none⟩ = some (.slice A1 n1 cap1) := fun V h => (kb2.stay h).cell 1
  have kb3 : Blk W0 (w.heap.size + 1 + 1 + 1) 39 #[.int .i64 ep2, .slice A2 n2 cap2] := by rw [hW0]; exact Blk.new' _ _ _ _ (by simp)
  have fz30 : ∀ V, Ext W0 V → V.cell? ⟨(w.heap.size + 1 + 1 + 1), 0, none⟩ = some (.int .i64 ep2) := fun V h => (kb3.stay h).cell 0
  have fz31 : ∀ V, Ext W0 V → V.cell? ⟨(w.heap.size + 1 + 1 + 1), 1, none⟩ = some (.slice A2 n2 cap2) := fun V h => (kb3.stay h).cell 1
  have HW0 := Lib.hid hW0
  have HX0 := Lib.hid hx0
  have E0 : Hid (Ext W0 W0) := Ext.refl _
  have HT : Hid (∀ V, Ext W0 V → Calls Try.prog 29 #[] V fun e w' => e = .returned (.bool true) ∧ Ext V w') := fun V _ => told2 V
  have hdm : d.size ≤ maxLen := by unfold maxLen; omega
  have CFa : Hid (∀ V, Ext W0 V → Calls Try.prog 28 #[.agg #[.int .i64 c, .int .i64 s, .int .i64 k, .int .i64 i, .int .i64 m, .string d]] V fun e w' => e = .returned (.bool true) ∧ Ext V w') := fun V _ => by have h := few_any c s k i m d V hdm; rw [decide_eq_true hd] at h; exact h
  have CFb : Hid (∀ V, Ext W0 V → Calls Try.prog 28 #[.agg #[.int .i64 c, .int .i64 s, .int .i64 k, .int .i64 i, .int .i64 m, .string d]] V fun e w' => e = .returned (.bool true) ∧ Ext V w') := fun V _ => by have h := few_any c s k i m d V hdm; rw [decide_eq_true hd] at h; exact h
  obtain ⟨qa, qam, qae⟩ := rq_of hm
  obtain ⟨XA, hXA⟩ : ∃ L, L = putB qa := ⟨_, rfl⟩
  obtain ⟨x1, hx1⟩ : ∃ n, n = (putB qa).length := ⟨_, rfl⟩
  have CPa : Hid (∀ V, Ext W0 V → Calls Try.prog 31 #[.agg #[.int .i64 c, .int .i64 s, .int .i64 k, .int .i64 i, .int .i64 m, .string d]] V fun e w' => ∃ A' c', e = .returned (.tuple #[.slice A' x1 c', .int .i64 0]) ∧ Sl Go.Proofs.Ytdbnaflaobncgaa.u8 w' A' XA ∧ Ext V w') := fun V hV => by
    rw [qae, hx1, hXA]; exact putReq_yes qa V qam
  have CPb : Hid (∀ V, Ext W0 V → Calls Try.prog 31 #[.agg #[.int .i64 c, .int .i64 s, .int .i64 k, .int .i64 i, .int .i64 m, .string d]] V fun e w' => ∃ A' c', e = .returned (.tuple #[.slice A' x1 c', .int .i64 0]) ∧ Sl Go.Proofs.Ytdbnaflaobncgaa.u8 w' A' XA ∧ Ext V w') := fun V hV => by
    rw [qae, hx1, hXA]; exact putReq_yes qa V qam
  obtain ⟨sa, hsa⟩ : ∃ z, z = str XA := ⟨_, rfl⟩
  have HVA : Hid (∀ V A' c', Sl Go.Proofs.Ytdbnaflaobncgaa.u8 V A' XA → ∀ W, Ext V W → (convert 54 9 (.slice A' x1 c')).run Try.prog W = .ok (.string sa) W) := fun V A' c' h W hW => by
    have := run_str (P := Try.prog) (w := W) 54 9 5 A' XA c' Try.underlying54 Try.underlying5 Try.underlying9 (h.stay hW)
    rw [hx1, hsa, ← hXA]
    exact this
  have CPc : Hid (∀ V, Ext W0 V → Calls Try.prog 38 #[.agg #[.int .i64 ep1, .slice A1 n1 cap1]] V fun e w' => e = .returned (.tuple #[.slice none 0 0, .int .i64 1]) ∧ Ext V w') := fun V hV => by
    rw [hn1]; exact putChain_no ep1 A1 cap1 l1 V (by omega) hc1 (hs1.stay (Ext.trans hx0 hV)) hmc
  have CPd : Hid (∀ V, Ext W0 V → Calls Try.prog 38 #[.agg #[.int .i64 ep2, .slice A2 n2 cap2]] V fun e w' => ∃ A' n' c' f', e = .returned (.tuple #[.slice A' n' c', .int .i64 f']) ∧ Ext V w') := fun V hV => by
    cases hmd : mayChainB ep2 l2 with
    | false =>
      rw [hn2]
      exact (putChain_no ep2 A2 cap2 l2 V (by omega) hc2 (hs2.stay (Ext.trans hx0 hV)) hmd).mono fun e w' ⟨h1, h2⟩ => ⟨_, _, _, _, h1, h2⟩
    | true =>
      obtain ⟨e8, ns8, he8, hl8⟩ := mayChainB_ints hmd
      rw [hn2, he8, hl8, ints_len]
      exact (putChain_yes e8 A2 cap2 ns8 V (by rw [hl8, ints_len] at hc2; exact hc2) (by rw [← hl8]; exact hs2.stay (Ext.trans hx0 hV)) (by rw [← he8, ← hl8]; exact hmd)).mono fun e w' ⟨_, _, h1, _, h2⟩ => ⟨_, _, _, _, h1, h2⟩
  have b1 : ¬ (8 : Int) < (n1 : Int) := by omega
  have b2 : ¬ (8 : Int) < (n2 : Int) := by omega
  clear kb0 kb1 kb2 kb3 hx0 hW0 hdm hd hm hn1 hn2 hc1 hc2 hs1 hs2 hmc qae qam hx1 hXA hsa
  go_enter Try.func11, Try.ntmps11
  go_wp2_with fail
  rw [← HW0.out]
  have e0 := E0.out
  have W0z00 := fz00 W0 E0.out; have W0z01 := fz01 W0 E0.out; have W0z02 := fz02 W0 E0.out; have W0z03 := fz03 W0 E0.out; have W0z04 := fz04 W0 E0.out; have W0z05 := fz05 W0 E0.out; have W0z10 := fz10 W0 E0.out; have W0z11 := fz11 W0 E0.out; have W0z12 := fz12 W0 E0.out; have W0z13 := fz13 W0 E0.out; have W0z14 := fz14 W0 E0.out; have W0z15 := fz15 W0 E0.out; have W0z20 := fz20 W0 E0.out; have W0z21 := fz21 W0 E0.out; have W0z30 := fz30 W0 E0.out; have W0z31 := fz31 W0 E0.out
  go_wp2_with (first
    | (go_at_call 28; (with_reducible refine (CFa.out _ e0).mono ?_); rintro e w1 ⟨rfl, hx⟩; have Ew1 : Ext W0 w1 := Ext.trans e0 hx; have w1z00 := fz00 w1 Ew1; have w1z01 := fz01 w1 Ew1; have w1z02 := fz02 w1 Ew1; have w1z03 := fz03 w1 Ew1; have w1z04 := fz04 w1 Ew1; have w1z05 := fz05 w1 Ew1; have w1z10 := fz10 w1 Ew1; have w1z11 := fz11 w1 Ew1; have w1z12 := fz12 w1 Ew1; have w1z13 := fz13 w1 Ew1; have w1z14 := fz14 w1 Ew1; have w1z15 := fz15 w1 Ew1; have w1z20 := fz20 w1 Ew1; have w1z21 := fz21 w1 Ew1; have w1z30 := fz30 w1 Ew1; have w1z31 := fz31 w1 Ew1; clear hx)
    | (go_at_call 28; (with_reducible refine (CFb.out _ Ew1).mono ?_); rintro e w2 ⟨rfl, hx⟩; have Ew2 : Ext W0 w2 := Ext.trans Ew1 hx; have w2z00 := fz00 w2 Ew2; have w2z01 := fz01 w2 Ew2; have w2z02 := fz02 w2 Ew2; have w2z03 := fz03 w2 Ew2; have w2z04 := fz04 w2 Ew2; have w2z05 := fz05 w2 Ew2; have w2z10 := fz10 w2 Ew2; have w2z11 := fz11 w2 Ew2; have w2z12 := fz12 w2 Ew2; have w2z13 := fz13 w2 Ew2; have w2z14 := fz14 w2 Ew2; have w2z15 := fz15 w2 Ew2; have w2z20 := fz20 w2 Ew2; have w2z21 := fz21 w2 Ew2; have w2z30 := fz30 w2 Ew2; have w2z31 := fz31 w2 Ew2; clear hx)
    | (go_at_call 31; (with_reducible refine (CPa.out _ Ew2).mono ?_); rintro e w3 ⟨Aa, ca, rfl, hsx, hx⟩; have Ew3 : Ext W0 w3 := Ext.trans Ew2 hx; have w3z00 := fz00 w3 Ew3; have w3z01 := fz01 w3 Ew3; have w3z02 := fz02 w3 Ew3; have w3z03 := fz03 w3 Ew3; have w3z04 := fz04 w3 Ew3; have w3z05 := fz05 w3 Ew3; have w3z10 := fz10 w3 Ew3; have w3z11 := fz11 w3 Ew3; have w3z12 := fz12 w3 Ew3; have w3z13 := fz13 w3 Ew3; have w3z14 := fz14 w3 Ew3; have w3z15 := fz15 w3 Ew3; have w3z20 := fz20 w3 Ew3; have w3z21 := fz21 w3 Ew3; have w3z30 := fz30 w3 Ew3; have w3z31 := fz31 w3 Ew3; have HSA := Lib.hid hsx; clear hsx; clear hx)
    | (go_at_call 31; (with_reducible refine (CPb.out _ Ew3).mono ?_); rintro e w4 ⟨Ab, cb, rfl, hsx, hx⟩; have Ew4 : Ext W0 w4 := Ext.trans Ew3 hx; have w4z00 := fz00 w4 Ew4; have w4z01 := fz01 w4 Ew4; have w4z02 := fz02 w4 Ew4; have w4z03 := fz03 w4 Ew4; have w4z04 := fz04 w4 Ew4; have w4z05 := fz05 w4 Ew4; have w4z10 := fz10 w4 Ew4; have w4z11 := fz11 w4 Ew4; have w4z12 := fz12 w4 Ew4; have w4z13 := fz13 w4 Ew4; have w4z14 := fz14 w4 Ew4; have w4z15 := fz15 w4 Ew4; have w4z20 := fz20 w4 Ew4; have w4z21 := fz21 w4 Ew4; have w4z30 := fz30 w4 Ew4; have w4z31 := fz31 w4 Ew4; have HSB := Lib.hid hsx; have HSA2 : Hid (Sl Go.Proofs.Ytdbnaflaobncgaa.u8 w4 Aa XA) := HSA.out.stay hx; clear hsx; clear hx))
  have EW4 := Lib.hid Ew4
  clear W0z00 W0z01 W0z02 W0z03 W0z04 W0z05 W0z10 W0z11 W0z12 W0z13 W0z14 W0z15 W0z20 W0z21 W0z30 W0z31 w1z00 w1z01 w1z02 w1z03 w1z04 w1z05 w1z10 w1z11 w1z12 w1z13 w1z14 w1z15 w1z20 w1z21 w1z30 w1z31 w2z00 w2z01 w2z02 w2z03 w2z04 w2z05 w2z10 w2z11 w2z12 w2z13 w2z14 w2z15 w2z20 w2z21 w2z30 w2z31 w3z00 w3z01 w3z02 w3z03 w3z04 w3z05 w3z10 w3z11 w3z12 w3z13 w3z14 w3z15 w3z20 w3z21 w3z30 w3z31 w4z00 w4z01 w4z02 w4z03 w4z04 w4z05 w4z10 w4z11 w4z12 w4z13 w4z14 w4z15 w4z20 w4z21 w4z30 w4z31 Ew1 Ew2 Ew3 Ew4
  have hcva : ∀ W, Ext w4 W → (convert 54 9 (.slice Aa x1 ca)).run Try.prog W = .ok (.string sa) W := HVA.out _ _ _ HSA2.out
  have hcvb : ∀ W, Ext w4 W → (convert 54 9 (.slice Ab x1 cb)).run Try.prog W = .ok (.string sa) W := HVA.out _ _ _ HSB.out
  have X44 : Hid (Ext w4 w4) := Ext.refl _
  have fy00 : ∀ V, Ext w4 V → V.cell? ⟨w.heap.size, 0, none⟩ = some (.int .i64 c) := fun V h => fz00 V (Ext.trans EW4.out h)
  have fy01 : ∀ V, Ext w4 V → V.cell? ⟨w.heap.size, 1, none⟩ = some (.int .i64 s) := fun V h => fz01 V (Ext.trans EW4.out h)
  have fy02 : ∀ V, Ext w4 V → V.cell? ⟨w.heap.size, 2, none⟩ = some (.int .i64 k) := fun V h => fz02 V (Ext.trans EW4.out h)
  have fy03 : ∀ V, Ext w4 V → V.cell? ⟨w.heap.size, 3, none⟩ = some (.int .i64 i) := fun V h => fz03 V (Ext.trans EW4.out h)
  have fy04 : ∀ V, Ext w4 V → V.cell? ⟨w.heap.size, 4, none⟩ = some (.int .i64 m) := fun V h => fz04 V (Ext.trans EW4.out h)
  have fy05 : ∀ V, Ext w4 V → V.cell? ⟨w.heap.size, 5, none⟩ = some (.string d) := fun V h => fz05 V (Ext.trans EW4.out h)
  have fy10 : ∀ V, Ext w4 V → V.cell? ⟨(w.heap.size + 1), 0, none⟩ = some (.int .i64 c) := fun V h => fz10 V (Ext.trans EW4.out h)
  have fy11 : ∀ V, Ext w4 V → V.cell? ⟨(w.heap.size + 1), 1, none⟩ = some (.int .i64 s) := fun V h => fz11 V (Ext.trans EW4.out h)
  have fy12 : ∀ V, Ext w4 V → V.cell? ⟨(w.heap.size + 1), 2, none⟩ = some (.int .i64 k) := fun V h => fz12 V (Ext.trans EW4.out h)
  have fy13 : ∀ V, Ext w4 V → V.cell? ⟨(w.heap.size + 1), 3, none⟩ = some (.int .i64 i) := fun V h => fz13 V (Ext.trans EW4.out h)
  have fy14 : ∀ V, Ext w4 V → V.cell? ⟨(w.heap.size + 1), 4, none⟩ = some (.int .i64 m) := fun V h => fz14 V (Ext.trans EW4.out h)
  have fy15 : ∀ V, Ext w4 V → V.cell? ⟨(w.heap.size + 1), 5, none⟩ = some (.string d) := fun V h => fz15 V (Ext.trans EW4.out h)
  refine ext_begin (by kernel_rfl) ?_
  have X44d := Lib.hid (Ext.drewR X44.out)
  refine ext_take (i := 0) (v := ?_) rfl (by kernel_rfl) (by kernel_rfl) (by kernel_rfl) (fun _ _ _ h => h) (by rfl) ?_ ?_
  rotate_left
  · intro W hW; have hW0 := Ext.trans X44d.out hW; clear hW; go_simp <;> with_reducible rfl
  try simp only [Act.put, List.setIfInBounds_toArray, List.set_cons_zero, List.set_cons_succ]
  refine ext_take (i := 1) (v := ?_) rfl (by kernel_rfl) (by kernel_rfl) (by kernel_rfl) (fun _ _ _ h => h) (by rfl) ?_ ?_
  rotate_left
  · intro W hW; have hW0 := Ext.trans X44d.out hW; clear hW; go_simp <;> with_reducible rfl
  try simp only [Act.put, List.setIfInBounds_toArray, List.set_cons_zero, List.set_cons_succ]
  refine ext_take (i := 2) (v := ?_) rfl (by kernel_rfl) (by kernel_rfl) (by kernel_rfl) (fun _ _ _ h => h) (by rfl) ?_ ?_
  rotate_left
  · intro W hW; have hW0 := Ext.trans X44d.out hW; clear hW; go_simp <;> with_reducible rfl
  try simp only [Act.put, List.setIfInBounds_toArray, List.set_cons_zero, List.set_cons_succ]
  refine ext_take (i := 3) (v := ?_) rfl (by kernel_rfl) (by kernel_rfl) (by kernel_rfl) (fun _ _ _ h => h) (by rfl) ?_ ?_
  rotate_left
  · intro W hW; have hW0 := Ext.trans X44d.out hW; clear hW; go_simp <;> with_reducible rfl
  try simp only [Act.put, List.setIfInBounds_toArray, List.set_cons_zero, List.set_cons_succ]
  refine ext_take (i := 4) (v := ?_) rfl (by kernel_rfl) (by kernel_rfl) (by kernel_rfl) (fun _ _ _ h => h) (by rfl) ?_ ?_
  rotate_left
  · intro W hW; have hW0 := Ext.trans X44d.out hW; clear hW; go_simp <;> with_reducible rfl
  try simp only [Act.put, List.setIfInBounds_toArray, List.set_cons_zero, List.set_cons_succ]
  refine ext_take (i := 5) (v := ?_) rfl (by kernel_rfl) (by kernel_rfl) (by kernel_rfl) (fun _ _ _ h => h) (by rfl) ?_ ?_
  rotate_left
  · intro W hW; have hW0 := Ext.trans X44d.out hW; clear hW; go_simp <;> with_reducible rfl
  try simp only [Act.put, List.setIfInBounds_toArray, List.set_cons_zero, List.set_cons_succ]
  refine ext_take (i := 6) (v := ?_) rfl (by kernel_rfl) (by kernel_rfl) (by kernel_rfl) (fun _ _ _ h => h) (by rfl) ?_ ?_
  rotate_left
  · intro W hW; have hW0 := Ext.trans X44d.out hW; clear hW; go_simp <;> with_reducible rfl
  try simp only [Act.put, List.setIfInBounds_toArray, List.set_cons_zero, List.set_cons_succ]
  refine ext_take (i := 7) (v := ?_) rfl (by kernel_rfl) (by kernel_rfl) (by kernel_rfl) (fun _ _ _ h => h) (by rfl) ?_ ?_
  rotate_left
  · intro W hW; have hW0 := Ext.trans X44d.out hW; clear hW; go_simp <;> with_reducible rfl
  try simp only [Act.put, List.setIfInBounds_toArray, List.set_cons_zero, List.set_cons_succ]
  refine ext_take (i := 8) (v := .string sa) rfl (by kernel_rfl) (by kernel_rfl) (by kernel_rfl) (fun _ _ _ h => h) (by rfl) ?_ ?_
  · intro W hW; have hW0 := Ext.trans X44d.out hW; clear hW; have hh := hcva W hW0; go_simp; all_goals (first | exact hh | (rw [hh]; done) | (rw [hh]; rfl))
  try simp only [Act.put, List.setIfInBounds_toArray, List.set_cons_zero, List.set_cons_succ]
  refine ext_take (i := 9) (v := ?_) rfl (by kernel_rfl) (by kernel_rfl) (by kernel_rfl) (fun _ _ _ h => h) (by rfl) ?_ ?_
  rotate_left
  · intro W hW; have hW0 := Ext.trans X44d.out hW; clear hW; go_simp <;> with_reducible rfl
  try simp only [Act.put, List.setIfInBounds_toArray, List.set_cons_zero, List.set_cons_succ]
  refine ext_take (i := 10) (v := .string sa) rfl (by kernel_rfl) (by kernel_rfl) (by kernel_rfl) (fun _ _ _ h => h) (by rfl) ?_ ?_
  · intro W hW; have hW0 := Ext.trans X44d.out hW; clear hW; have hh := hcvb W hW0; go_simp; all_goals (first | exact hh | (rw [hh]; done) | (rw [hh]; rfl))
  try simp only [Act.put, List.setIfInBounds_toArray, List.set_cons_zero, List.set_cons_succ]
  refine ext_take (i := 11) (v := ?_) rfl (by kernel_rfl) (by kernel_rfl) (by kernel_rfl) (fun _ _ _ h => h) (by rfl) ?_ ?_
  rotate_left
  · intro W hW; have hW0 := Ext.trans X44d.out hW; clear hW; go_simp <;> with_reducible rfl
  try simp only [Act.put, List.setIfInBounds_toArray, List.set_cons_zero, List.set_cons_succ]
  refine ext_take (i := 12) (v := ?_) rfl (by kernel_rfl) (by kernel_rfl) (by kernel_rfl) (fun _ _ _ h => h) (by rfl) ?_ ?_
  rotate_left
  · intro W hW; have hW0 := Ext.trans X44d.out hW; clear hW; go_simp <;> with_reducible rfl
  try simp only [Act.put, List.setIfInBounds_toArray, List.set_cons_zero, List.set_cons_succ]
  refine ext_take (i := 13) (v := ?_) rfl (by kernel_rfl) (by kernel_rfl) (by kernel_rfl) (fun _ _ _ h => h) (by rfl) ?_ ?_
  rotate_left
  · intro W hW; have hW0 := Ext.trans X44d.out hW; clear hW; go_simp <;> with_reducible rfl
  try simp only [Act.put, List.setIfInBounds_toArray, List.set_cons_zero, List.set_cons_succ]
  refine ext_take (i := 14) (v := ?_) rfl (by kernel_rfl) (by kernel_rfl) (by kernel_rfl) (fun _ _ _ h => h) (by rfl) ?_ ?_
  rotate_left
  · intro W hW; have hW0 := Ext.trans X44d.out hW; clear hW; go_simp <;> with_reducible rfl
  try simp only [Act.put, List.setIfInBounds_toArray, List.set_cons_zero, List.set_cons_succ]
  refine ext_take (i := 15) (v := ?_) rfl (by kernel_rfl) (by kernel_rfl) (by kernel_rfl) (fun _ _ _ h => h) (by rfl) ?_ ?_
  rotate_left
  · intro W hW; have hW0 := Ext.trans X44d.out hW; clear hW; go_simp <;> with_reducible rfl
  try simp only [Act.put, List.setIfInBounds_toArray, List.set_cons_zero, List.set_cons_succ]
  refine ext_take (i := 16) (v := ?_) rfl (by kernel_rfl) (by kernel_rfl) (by kernel_rfl) (fun _ _ _ h => h) (by rfl) ?_ ?_
  rotate_left
  · intro W hW; have hW0 := Ext.trans X44d.out hW; clear hW; go_simp <;> with_reducible rfl
  try simp only [Act.put, List.setIfInBounds_toArray, List.set_cons_zero, List.set_cons_succ]
  refine wpAnyH_done (by kernel_rfl) ?_ _
  have EX : Hid (Ext W0 w4.drew) := Ext.trans EW4.out X44d.out
  clear X44d hcva hcvb fy00 fy01 fy02 fy03 fy04 fy05 fy10 fy11 fy12 fy13 fy14 fy15
  have ex := EX.out
  have wd20 := fz20 _ ex
  have wd21 := fz21 _ ex
  have wd30 := fz30 _ ex
  have wd31 := fz31 _ ex
  go_wp2_with (first
    | (go_at_call 38; (with_reducible refine (CPc.out _ ex).mono ?_); rintro e w5 ⟨rfl, hx⟩; have Ew5 : Ext W0 w5 := Ext.trans ex hx; have w5z20 := fz20 w5 Ew5; have w5z21 := fz21 w5 Ew5; have w5z30 := fz30 w5 Ew5; have w5z31 := fz31 w5 Ew5; clear hx)
    | (go_at_call 38; (with_reducible refine (CPd.out _ Ew5).mono ?_); rintro e w6 ⟨Ad, nd, cd, fd, rfl, hx⟩; have Ew6 : Ext W0 w6 := Ext.trans Ew5 hx; have w6z20 := fz20 w6 Ew6; have w6z21 := fz21 w6 Ew6; have w6z30 := fz30 w6 Ew6; have w6z31 := fz31 w6 Ew6; clear hx)
    | (go_at_call 29; (with_reducible refine (HT.out _ Ew6).mono ?_); rintro e w7 ⟨rfl, hx⟩; have Ew7 : Ext W0 w7 := Ext.trans Ew6 hx; clear hx))
  try go_ret
  exact hD.out _ _ ⟨rfl, Ext.trans HX0.out Ew7⟩

set_option maxRecDepth 8000 in
set_option maxHeartbeats 16000000 in
theorem apart_2_1 (c s k i m : Int) (d : ByteArray) (ep1 : Int) (A1 : Option Addr) (cap1 n1 : Nat) (ep2 : Int) (A2 : Option Addr) (cap2 n2 : Nat) (w : World) (hd : d.size ≤ 300) (hm : mayReqB c s k i m d.size = true) (l1 l2 : List Int) (hn1 : n1 = l1.length) (hn2 : n2 = l2.length) (h1 : n1 ≤ 8) (h2 : n2 ≤ 8) (hc1 : l1.length ≤ cap1) (hc2 : l2.length ≤ cap2) (hs1 : Sl i64 w A1 l1) (hs2 : Sl i64 w A2 l2) (hmc : mayChainB ep1 l1 = true) (hmd : mayChainB ep2 l2 = false) :
    Calls Try.prog 11 #[.agg #[.int .i64 c, .int .i64 s, .int .i64 k, .int .i64 i, .int .i64 m, .string d], .agg #[.int .i64 c, .int .i64 s, .int .i64 k, .int .i64 i, .int .i64 m, .string d], .agg #[.int .i64 ep1, .slice A1 n1 cap1], .agg #[.int .i64 ep2, .slice A2 n2 cap2]] w fun e w' => e = .returned (.bool true) ∧ Below w.heap.size w w' := by
  refine hide_post fun D hD => ?_
  obtain ⟨W0, hW0⟩ : ∃ W0, W0 = ((((w.alloc (.cells #[.int .i64 c, .int .i64 s, .int .i64 k, .int .i64 i, .int .i64 m, .string d] 30)).alloc (.cells #[.int .i64 c, .int .i64 s, .int .i64 k, .int .i64 i, .int .i64 m, .string d] 30)).alloc (.cells #[.int .i64 ep1, .slice A1 n1 cap1] 39)).alloc (.cells #[.int .i64 ep2, .slice A2 n2 cap2] 39)) := ⟨_, rfl⟩
  have hx0 : Ext w W0 := by rw [hW0]; exact Ext.trans (Ext.trans (Ext.trans (Ext.alloc _ _) (Ext.alloc _ _)) (Ext.alloc _ _)) (Ext.alloc _ _)
  have kb0 : Blk W0 w.heap.size 30 #[.int .i64 c, .int .i64 s, .int .i64 k, .int .i64 i, .int .i64 m, .string d] := by rw [hW0]; exact (((Blk.new _ _ _).alloc _).alloc _).alloc _
  have fz00 : ∀ V, Ext W0 V → V.cell? ⟨w.heap.size, 0, none⟩ = some (.int .i64 c) := fun V h => (kb0.stay h).cell 0
  have fz01 : ∀ V, Ext W0 V → V.cell? ⟨w.heap.size, 1, none⟩ = some (.int .i64 s) := fun V h => (kb0.stay h).cell 1
  have fz02 : ∀ V, Ext W0 V → V.cell? ⟨w.heap.size, 2, none⟩ = some (.int .i64 k) := fun V h => (kb0.stay h).cell 2
  have fz03 : ∀ V, Ext W0 V → V.cell? ⟨w.heap.size, 3, none⟩ = some (.int .i64 i) := fun V h => (kb0.stay h).cell 3
  have fz04 : ∀ V, Ext W0 V → V.cell? ⟨w.heap.size, 4, none⟩ = some (.int .i64 m) := fun V h => (kb0.stay h).cell 4
  have fz05 : ∀ V, Ext W0 V → V.cell? ⟨w.heap.size, 5, none⟩ = some (.string d) := fun V h => (kb0.stay h).cell 5
  have kb1 : Blk W0 (w.heap.size + 1) 30 #[.int .i64 c, .int .i64 s, .int .i64 k, .int .i64 i, .int .i64 m, .string d] := by rw [hW0]; exact ((Blk.new' _ _ _ _ (by simp)).alloc _).alloc _
  have fz10 : ∀ V, Ext W0 V → V.cell? ⟨(w.heap.size + 1), 0, none⟩ = some (.int .i64 c) := fun V h => (kb1.stay h).cell 0
  have fz11 : ∀ V, Ext W0 V → V.cell? ⟨(w.heap.size + 1), 1, none⟩ = some (.int .i64 s) := fun V h => (kb1.stay h).cell 1
  have fz12 : ∀ V, Ext W0 V → V.cell? ⟨(w.heap.size + 1), 2, none⟩ = some (.int .i64 k) := fun V h => (kb1.stay h).cell 2
  have fz13 : ∀ V, Ext W0 V → V.cell? ⟨(w.heap.size + 1), 3, none⟩ = some (.int .i64 i) := fun V h => (kb1.stay h).cell 3
  have fz14 : ∀ V, Ext W0 V → V.cell? ⟨(w.heap.size + 1), 4, none⟩ = some (.int .i64 m) := fun V h => (kb1.stay h).cell 4
  have fz15 : ∀ V, Ext W0 V → V.cell? ⟨(w.heap.size + 1), 5, none⟩ = some (.string d) := fun V h => (kb1.stay h).cell 5
  have kb2 : Blk W0 (w.heap.size + 1 + 1) 39 #[.int .i64 ep1, .slice A1 n1 cap1] := by rw [hW0]; exact (Blk.new' _ _ _ _ (by simp)).alloc _
  have fz20 : ∀ V, Ext W0 V → V.cell? ⟨(w.heap.size + 1 + 1), 0, none⟩ = some (.int .i64 ep1) := fun V h => (kb2.stay h).cell 0
  have fz21 : ∀ V, Ext W0 V → V.cell? ⟨(w.heap.size + 1 + 1), 1, none⟩ = some (.slice A1 n1 cap1) := fun V h => (kb2.stay h).cell 1
  have kb3 : Blk W0 (w.heap.size + 1 + 1 + 1) 39 #[.int .i64 ep2, .slice A2 n2 cap2] := by rw [hW0]; exact Blk.new' _ _ _ _ (by simp)
  have fz30 : ∀ V, Ext W0 V → V.cell? ⟨(w.heap.size + 1 + 1 + 1), 0, none⟩ = some (.int .i64 ep2) := fun V h => (kb3.stay h).cell 0
  have fz31 : ∀ V, Ext W0 V → V.cell? ⟨(w.heap.size + 1 + 1 + 1), 1, none⟩ = some (.slice A2 n2 cap2) := fun V h => (kb3.stay h).cell 1
  have HW0 := Lib.hid hW0
  have HX0 := Lib.hid hx0
  have E0 : Hid (Ext W0 W0) := Ext.refl _
  have HT : Hid (∀ V, Ext W0 V → Calls Try.prog 29 #[] V fun e w' => e = .returned (.bool true) ∧ Ext V w') := fun V _ => told2 V
  have hdm : d.size ≤ maxLen := by unfold maxLen; omega
  have CFa : Hid (∀ V, Ext W0 V → Calls Try.prog 28 #[.agg #[.int .i64 c, .int .i64 s, .int .i64 k, .int .i64 i, .int .i64 m, .string d]] V fun e w' => e = .returned (.bool true) ∧ Ext V w') := fun V _ => by have h := few_any c s k i m d V hdm; rw [decide_eq_true hd] at h; exact h
  have CFb : Hid (∀ V, Ext W0 V → Calls Try.prog 28 #[.agg #[.int .i64 c, .int .i64 s, .int .i64 k, .int .i64 i, .int .i64 m, .string d]] V fun e w' => e = .returned (.bool true) ∧ Ext V w') := fun V _ => by have h := few_any c s k i m d V hdm; rw [decide_eq_true hd] at h; exact h
  obtain ⟨qa, qam, qae⟩ := rq_of hm
  obtain ⟨XA, hXA⟩ : ∃ L, L = putB qa := ⟨_, rfl⟩
  obtain ⟨x1, hx1⟩ : ∃ n, n = (putB qa).length := ⟨_, rfl⟩
  have CPa : Hid (∀ V, Ext W0 V → Calls Try.prog 31 #[.agg #[.int .i64 c, .int .i64 s, .int .i64 k, .int .i64 i, .int .i64 m, .string d]] V fun e w' => ∃ A' c', e = .returned (.tuple #[.slice A' x1 c', .int .i64 0]) ∧ Sl Go.Proofs.Ytdbnaflaobncgaa.u8 w' A' XA ∧ Ext V w') := fun V hV => by
    rw [qae, hx1, hXA]; exact putReq_yes qa V qam
  have CPb : Hid (∀ V, Ext W0 V → Calls Try.prog 31 #[.agg #[.int .i64 c, .int .i64 s, .int .i64 k, .int .i64 i, .int .i64 m, .string d]] V fun e w' => ∃ A' c', e = .returned (.tuple #[.slice A' x1 c', .int .i64 0]) ∧ Sl Go.Proofs.Ytdbnaflaobncgaa.u8 w' A' XA ∧ Ext V w') := fun V hV => by
    rw [qae, hx1, hXA]; exact putReq_yes qa V qam
  obtain ⟨sa, hsa⟩ : ∃ z, z = str XA := ⟨_, rfl⟩
  have HVA : Hid (∀ V A' c', Sl Go.Proofs.Ytdbnaflaobncgaa.u8 V A' XA → ∀ W, Ext V W → (convert 54 9 (.slice A' x1 c')).run Try.prog W = .ok (.string sa) W) := fun V A' c' h W hW => by
    have := run_str (P := Try.prog) (w := W) 54 9 5 A' XA c' Try.underlying54 Try.underlying5 Try.underlying9 (h.stay hW)
    rw [hx1, hsa, ← hXA]
    exact this
  obtain ⟨e7, ns7, he7, hl7⟩ := mayChainB_ints hmc
  obtain ⟨X7, hX7⟩ : ∃ L, L = putC e7 ns7 := ⟨_, rfl⟩
  obtain ⟨z7, hz7⟩ : ∃ n, n = (putC e7 ns7).length := ⟨_, rfl⟩
  have CPc : Hid (∀ V, Ext W0 V → Calls Try.prog 38 #[.agg #[.int .i64 ep1, .slice A1 n1 cap1]] V fun e w' => ∃ A' c', e = .returned (.tuple #[.slice A' z7 c', .int .i64 0]) ∧ Sl Go.Proofs.Ytdbnaflaobncgaa.u8 w' A' X7 ∧ Ext V w') := fun V hV => by
    have h := putChain_yes e7 A1 cap1 ns7 V (by rw [hl7, ints_len] at hc1; exact hc1) (by rw [← hl7]; exact hs1.stay (Ext.trans hx0 hV)) (by rw [← he7, ← hl7]; exact hmc)
    rw [he7, hn1, hl7, ints_len, hz7, hX7]
    exact h
  have CPd : Hid (∀ V, Ext W0 V → Calls Try.prog 38 #[.agg #[.int .i64 ep2, .slice A2 n2 cap2]] V fun e w' => e = .returned (.tuple #[.slice none 0 0, .int .i64 1]) ∧ Ext V w') := fun V hV => by
    rw [hn2]; exact putChain_no ep2 A2 cap2 l2 V (by omega) hc2 (hs2.stay (Ext.trans hx0 hV)) hmd
  have b1 : ¬ (8 : Int) < (n1 : Int) := by omega
  have b2 : ¬ (8 : Int) < (n2 : Int) := by omega
  clear kb0 kb1 kb2 kb3 hx0 hW0 hdm hd hm hn1 hn2 hc1 hc2 hs1 hs2 hmc hmd qae qam hx1 hXA hsa he7 hl7 hX7 hz7
  go_enter Try.func11, Try.ntmps11
  go_wp2_with fail
  rw [← HW0.out]
  have e0 := E0.out
  have W0z00 := fz00 W0 E0.out; have W0z01 := fz01 W0 E0.out; have W0z02 := fz02 W0 E0.out; have W0z03 := fz03 W0 E0.out; have W0z04 := fz04 W0 E0.out; have W0z05 := fz05 W0 E0.out; have W0z10 := fz10 W0 E0.out; have W0z11 := fz11 W0 E0.out; have W0z12 := fz12 W0 E0.out; have W0z13 := fz13 W0 E0.out; have W0z14 := fz14 W0 E0.out; have W0z15 := fz15 W0 E0.out; have W0z20 := fz20 W0 E0.out; have W0z21 := fz21 W0 E0.out; have W0z30 := fz30 W0 E0.out; have W0z31 := fz31 W0 E0.out
  go_wp2_with (first
    | (go_at_call 28; (with_reducible refine (CFa.out _ e0).mono ?_); rintro e w1 ⟨rfl, hx⟩; have Ew1 : Ext W0 w1 := Ext.trans e0 hx; have w1z00 := fz00 w1 Ew1; have w1z01 := fz01 w1 Ew1; have w1z02 := fz02 w1 Ew1; have w1z03 := fz03 w1 Ew1; have w1z04 := fz04 w1 Ew1; have w1z05 := fz05 w1 Ew1; have w1z10 := fz10 w1 Ew1; have w1z11 := fz11 w1 Ew1; have w1z12 := fz12 w1 Ew1; have w1z13 := fz13 w1 Ew1; have w1z14 := fz14 w1 Ew1; have w1z15 := fz15 w1 Ew1; have w1z20 := fz20 w1 Ew1; have w1z21 := fz21 w1 Ew1; have w1z30 := fz30 w1 Ew1; have w1z31 := fz31 w1 Ew1; clear hx)
    | (go_at_call 28; (with_reducible refine (CFb.out _ Ew1).mono ?_); rintro e w2 ⟨rfl, hx⟩; have Ew2 : Ext W0 w2 := Ext.trans Ew1 hx; have w2z00 := fz00 w2 Ew2; have w2z01 := fz01 w2 Ew2; have w2z02 := fz02 w2 Ew2; have w2z03 := fz03 w2 Ew2; have w2z04 := fz04 w2 Ew2; have w2z05 := fz05 w2 Ew2; have w2z10 := fz10 w2 Ew2; have w2z11 := fz11 w2 Ew2; have w2z12 := fz12 w2 Ew2; have w2z13 := fz13 w2 Ew2; have w2z14 := fz14 w2 Ew2; have w2z15 := fz15 w2 Ew2; have w2z20 := fz20 w2 Ew2; have w2z21 := fz21 w2 Ew2; have w2z30 := fz30 w2 Ew2; have w2z31 := fz31 w2 Ew2; clear hx)
    | (go_at_call 31; (with_reducible refine (CPa.out _ Ew2).mono ?_); rintro e w3 ⟨Aa, ca, rfl, hsx, hx⟩; have Ew3 : Ext W0 w3 := Ext.trans Ew2 hx; have w3z00 := fz00 w3 Ew3; have w3z01 := fz01 w3 Ew3; have w3z02 := fz02 w3 Ew3; have w3z03 := fz03 w3 Ew3; have w3z04 := fz04 w3 Ew3; have w3z05 := fz05 w3 Ew3; have w3z10 := fz10 w3 Ew3; have w3z11 := fz11 w3 Ew3; have w3z12 := fz12 w3 Ew3; have w3z13 := fz13 w3 Ew3; have w3z14 := fz14 w3 Ew3; have w3z15 := fz15 w3 Ew3; have w3z20 := fz20 w3 Ew3; have w3z21 := fz21 w3 Ew3; have w3z30 := fz30 w3 Ew3; have w3z31 := fz31 w3 Ew3; have HSA := Lib.hid hsx; clear hsx; clear hx)
    | (go_at_call 31; (with_reducible refine (CPb.out _ Ew3).mono ?_); rintro e w4 ⟨Ab, cb, rfl, hsx, hx⟩; have Ew4 : Ext W0 w4 := Ext.trans Ew3 hx; have w4z00 := fz00 w4 Ew4; have w4z01 := fz01 w4 Ew4; have w4z02 := fz02 w4 Ew4; have w4z03 := fz03 w4 Ew4; have w4z04 := fz04 w4 Ew4; have w4z05 := fz05 w4 Ew4; have w4z10 := fz10 w4 Ew4; have w4z11 := fz11 w4 Ew4; have w4z12 := fz12 w4 Ew4; have w4z13 := fz13 w4 Ew4; have w4z14 := fz14 w4 Ew4; have w4z15 := fz15 w4 Ew4; have w4z20 := fz20 w4 Ew4; have w4z21 := fz21 w4 Ew4; have w4z30 := fz30 w4 Ew4; have w4z31 := fz31 w4 Ew4; have HSB := Lib.hid hsx; have HSA2 : Hid (Sl Go.Proofs.Ytdbnaflaobncgaa.u8 w4 Aa XA) := HSA.out.stay hx; clear hsx; clear hx))
  have EW4 := Lib.hid Ew4
  clear W0z00 W0z01 W0z02 W0z03 W0z04 W0z05 W0z10 W0z11 W0z12 W0z13 W0z14 W0z15 W0z20 W0z21 W0z30 W0z31 w1z00 w1z01 w1z02 w1z03 w1z04 w1z05 w1z10 w1z11 w1z12 w1z13 w1z14 w1z15 w1z20 w1z21 w1z30 w1z31 w2z00 w2z01 w2z02 w2z03 w2z04 w2z05 w2z10 w2z11 w2z12 w2z13 w2z14 w2z15 w2z20 w2z21 w2z30 w2z31 w3z00 w3z01 w3z02 w3z03 w3z04 w3z05 w3z10 w3z11 w3z12 w3z13 w3z14 w3z15 w3z20 w3z21 w3z30 w3z31 w4z00 w4z01 w4z02 w4z03 w4z04 w4z05 w4z10 w4z11 w4z12 w4z13 w4z14 w4z15 w4z20 w4z21 w4z30 w4z31 Ew1 Ew2 Ew3 Ew4
  have hcva : ∀ W, Ext w4 W → (convert 54 9 (.slice Aa x1 ca)).run Try.prog W = .ok (.string sa) W := HVA.out _ _ _ HSA2.out
  have hcvb : ∀ W, Ext w4 W → (convert 54 9 (.slice Ab x1 cb)).run Try.prog W = .ok (.string sa) W := HVA.out _ _ _ HSB.out
  have X44 : Hid (Ext w4 w4) := Ext.refl _
  have fy00 : ∀ V, Ext w4 V → V.cell? ⟨w.heap.size, 0, none⟩ = some (.int .i64 c) := fun V h => fz00 V (Ext.trans EW4.out h)
  have fy01 : ∀ V, Ext w4 V → V.cell? ⟨w.heap.size, 1, none⟩ = some (.int .i64 s) := fun V h => fz01 V (Ext.trans EW4.out h)
  have fy02 : ∀ V, Ext w4 V → V.cell? ⟨w.heap.size, 2, none⟩ = some (.int .i64 k) := fun V h => fz02 V (Ext.trans EW4.out h)
  have fy03 : ∀ V, Ext w4 V → V.cell? ⟨w.heap.size, 3, none⟩ = some (.int .i64 i) := fun V h => fz03 V (Ext.trans EW4.out h)
  have fy04 : ∀ V, Ext w4 V → V.cell? ⟨w.heap.size, 4, none⟩ = some (.int .i64 m) := fun V h => fz04 V (Ext.trans EW4.out h)
  have fy05 : ∀ V, Ext w4 V → V.cell? ⟨w.heap.size, 5, none⟩ = some (.string d) := fun V h => fz05 V (Ext.trans EW4.out h)
  have fy10 : ∀ V, Ext w4 V → V.cell? ⟨(w.heap.size + 1), 0, none⟩ = some (.int .i64 c) := fun V h => fz10 V (Ext.trans EW4.out h)
  have fy11 : ∀ V, Ext w4 V → V.cell? ⟨(w.heap.size + 1), 1, none⟩ = some (.int .i64 s) := fun V h => fz11 V (Ext.trans EW4.out h)
  have fy12 : ∀ V, Ext w4 V → V.cell? ⟨(w.heap.size + 1), 2, none⟩ = some (.int .i64 k) := fun V h => fz12 V (Ext.trans EW4.out h)
  have fy13 : ∀ V, Ext w4 V → V.cell? ⟨(w.heap.size + 1), 3, none⟩ = some (.int .i64 i) := fun V h => fz13 V (Ext.trans EW4.out h)
  have fy14 : ∀ V, Ext w4 V → V.cell? ⟨(w.heap.size + 1), 4, none⟩ = some (.int .i64 m) := fun V h => fz14 V (Ext.trans EW4.out h)
  have fy15 : ∀ V, Ext w4 V → V.cell? ⟨(w.heap.size + 1), 5, none⟩ = some (.string d) := fun V h => fz15 V (Ext.trans EW4.out h)
  refine ext_begin (by kernel_rfl) ?_
  have X44d := Lib.hid (Ext.drewR X44.out)
  refine ext_take (i := 0) (v := ?_) rfl (by kernel_rfl) (by kernel_rfl) (by kernel_rfl) (fun _ _ _ h => h) (by rfl) ?_ ?_
  rotate_left
  · intro W hW; have hW0 := Ext.trans X44d.out hW; clear hW; go_simp <;> with_reducible rfl
  try simp only [Act.put, List.setIfInBounds_toArray, List.set_cons_zero, List.set_cons_succ]
  refine ext_take (i := 1) (v := ?_) rfl (by kernel_rfl) (by kernel_rfl) (by kernel_rfl) (fun _ _ _ h => h) (by rfl) ?_ ?_
  rotate_left
  · intro W hW; have hW0 := Ext.trans X44d.out hW; clear hW; go_simp <;> with_reducible rfl
  try simp only [Act.put, List.setIfInBounds_toArray, List.set_cons_zero, List.set_cons_succ]
  refine ext_take (i := 2) (v := ?_) rfl (by kernel_rfl) (by kernel_rfl) (by kernel_rfl) (fun _ _ _ h => h) (by rfl) ?_ ?_
  rotate_left
  · intro W hW; have hW0 := Ext.trans X44d.out hW; clear hW; go_simp <;> with_reducible rfl
  try simp only [Act.put, List.setIfInBounds_toArray, List.set_cons_zero, List.set_cons_succ]
  refine ext_take (i := 3) (v := ?_) rfl (by kernel_rfl) (by kernel_rfl) (by kernel_rfl) (fun _ _ _ h => h) (by rfl) ?_ ?_
  rotate_left
  · intro W hW; have hW0 := Ext.trans X44d.out hW; clear hW; go_simp <;> with_reducible rfl
  try simp only [Act.put, List.setIfInBounds_toArray, List.set_cons_zero, List.set_cons_succ]
  refine ext_take (i := 4) (v := ?_) rfl (by kernel_rfl) (by kernel_rfl) (by kernel_rfl) (fun _ _ _ h => h) (by rfl) ?_ ?_
  rotate_left
  · intro W hW; have hW0 := Ext.trans X44d.out hW; clear hW; go_simp <;> with_reducible rfl
  try simp only [Act.put, List.setIfInBounds_toArray, List.set_cons_zero, List.set_cons_succ]
  refine ext_take (i := 5) (v := ?_) rfl (by kernel_rfl) (by kernel_rfl) (by kernel_rfl) (fun _ _ _ h => h) (by rfl) ?_ ?_
  rotate_left
  · intro W hW; have hW0 := Ext.trans X44d.out hW; clear hW; go_simp <;> with_reducible rfl
  try simp only [Act.put, List.setIfInBounds_toArray, List.set_cons_zero, List.set_cons_succ]
  refine ext_take (i := 6) (v := ?_) rfl (by kernel_rfl) (by kernel_rfl) (by kernel_rfl) (fun _ _ _ h => h) (by rfl) ?_ ?_
  rotate_left
  · intro W hW; have hW0 := Ext.trans X44d.out hW; clear hW; go_simp <;> with_reducible rfl
  try simp only [Act.put, List.setIfInBounds_toArray, List.set_cons_zero, List.set_cons_succ]
  refine ext_take (i := 7) (v := ?_) rfl (by kernel_rfl) (by kernel_rfl) (by kernel_rfl) (fun _ _ _ h => h) (by rfl) ?_ ?_
  rotate_left
  · intro W hW; have hW0 := Ext.trans X44d.out hW; clear hW; go_simp <;> with_reducible rfl
  try simp only [Act.put, List.setIfInBounds_toArray, List.set_cons_zero, List.set_cons_succ]
  refine ext_take (i := 8) (v := .string sa) rfl (by kernel_rfl) (by kernel_rfl) (by kernel_rfl) (fun _ _ _ h => h) (by rfl) ?_ ?_
  · intro W hW; have hW0 := Ext.trans X44d.out hW; clear hW; have hh := hcva W hW0; go_simp; all_goals (first | exact hh | (rw [hh]; done) | (rw [hh]; rfl))
  try simp only [Act.put, List.setIfInBounds_toArray, List.set_cons_zero, List.set_cons_succ]
  refine ext_take (i := 9) (v := ?_) rfl (by kernel_rfl) (by kernel_rfl) (by kernel_rfl) (fun _ _ _ h => h) (by rfl) ?_ ?_
  rotate_left
  · intro W hW; have hW0 := Ext.trans X44d.out hW; clear hW; go_simp <;> with_reducible rfl
  try simp only [Act.put, List.setIfInBounds_toArray, List.set_cons_zero, List.set_cons_succ]
  refine ext_take (i := 10) (v := .string sa) rfl (by kernel_rfl) (by kernel_rfl) (by kernel_rfl) (fun _ _ _ h => h) (by rfl) ?_ ?_
  · intro W hW; have hW0 := Ext.trans X44d.out hW; clear hW; have hh := hcvb W hW0; go_simp; all_goals (first | exact hh | (rw [hh]; done) | (rw [hh]; rfl))
  try simp only [Act.put, List.setIfInBounds_toArray, List.set_cons_zero, List.set_cons_succ]
  refine ext_take (i := 11) (v := ?_) rfl (by kernel_rfl) (by kernel_rfl) (by kernel_rfl) (fun _ _ _ h => h) (by rfl) ?_ ?_
  rotate_left
  · intro W hW; have hW0 := Ext.trans X44d.out hW; clear hW; go_simp <;> with_reducible rfl
  try simp only [Act.put, List.setIfInBounds_toArray, List.set_cons_zero, List.set_cons_succ]
  refine ext_take (i := 12) (v := ?_) rfl (by kernel_rfl) (by kernel_rfl) (by kernel_rfl) (fun _ _ _ h => h) (by rfl) ?_ ?_
  rotate_left
  · intro W hW; have hW0 := Ext.trans X44d.out hW; clear hW; go_simp <;> with_reducible rfl
  try simp only [Act.put, List.setIfInBounds_toArray, List.set_cons_zero, List.set_cons_succ]
  refine ext_take (i := 13) (v := ?_) rfl (by kernel_rfl) (by kernel_rfl) (by kernel_rfl) (fun _ _ _ h => h) (by rfl) ?_ ?_
  rotate_left
  · intro W hW; have hW0 := Ext.trans X44d.out hW; clear hW; go_simp <;> with_reducible rfl
  try simp only [Act.put, List.setIfInBounds_toArray, List.set_cons_zero, List.set_cons_succ]
  refine ext_take (i := 14) (v := ?_) rfl (by kernel_rfl) (by kernel_rfl) (by kernel_rfl) (fun _ _ _ h => h) (by rfl) ?_ ?_
  rotate_left
  · intro W hW; have hW0 := Ext.trans X44d.out hW; clear hW; go_simp <;> with_reducible rfl
  try simp only [Act.put, List.setIfInBounds_toArray, List.set_cons_zero, List.set_cons_succ]
  refine ext_take (i := 15) (v := ?_) rfl (by kernel_rfl) (by kernel_rfl) (by kernel_rfl) (fun _ _ _ h => h) (by rfl) ?_ ?_
  rotate_left
  · intro W hW; have hW0 := Ext.trans X44d.out hW; clear hW; go_simp <;> with_reducible rfl
  try simp only [Act.put, List.setIfInBounds_toArray, List.set_cons_zero, List.set_cons_succ]
  refine ext_take (i := 16) (v := ?_) rfl (by kernel_rfl) (by kernel_rfl) (by kernel_rfl) (fun _ _ _ h => h) (by rfl) ?_ ?_
  rotate_left
  · intro W hW; have hW0 := Ext.trans X44d.out hW; clear hW; go_simp <;> with_reducible rfl
  try simp only [Act.put, List.setIfInBounds_toArray, List.set_cons_zero, List.set_cons_succ]
  refine wpAnyH_done (by kernel_rfl) ?_ _
  have EX : Hid (Ext W0 w4.drew) := Ext.trans EW4.out X44d.out
  clear X44d hcva hcvb fy00 fy01 fy02 fy03 fy04 fy05 fy10 fy11 fy12 fy13 fy14 fy15
  have ex := EX.out
  have wd20 := fz20 _ ex
  have wd21 := fz21 _ ex
  have wd30 := fz30 _ ex
  have wd31 := fz31 _ ex
  go_wp2_with (first
    | (go_at_call 38; (with_reducible refine (CPc.out _ ex).mono ?_); rintro e w5 ⟨Ac, cc, rfl, hsx, hx⟩; have Ew5 : Ext W0 w5 := Ext.trans ex hx; have w5z20 := fz20 w5 Ew5; have w5z21 := fz21 w5 Ew5; have w5z30 := fz30 w5 Ew5; have w5z31 := fz31 w5 Ew5; have HSc := Lib.hid hsx; clear hsx; clear hx)
    | (go_at_call 38; (with_reducible refine (CPd.out _ Ew5).mono ?_); rintro e w6 ⟨rfl, hx⟩; have Ew6 : Ext W0 w6 := Ext.trans Ew5 hx; have w6z20 := fz20 w6 Ew6; have w6z21 := fz21 w6 Ew6; have w6z30 := fz30 w6 Ew6; have w6z31 := fz31 w6 Ew6; clear hx)
    | (go_at_call 29; (with_reducible refine (HT.out _ Ew6).mono ?_); rintro e w7 ⟨rfl, hx⟩; have Ew7 : Ext W0 w7 := Ext.trans Ew6 hx; clear hx))
  try go_ret
  exact hD.out _ _ ⟨rfl, Ext.trans HX0.out Ew7⟩

set_option maxRecDepth 8000 in
set_option maxHeartbeats 16000000 in
theorem apart_2_2 (c s k i m : Int) (d : ByteArray) (ep1 : Int) (A1 : Option Addr) (cap1 n1 : Nat) (ep2 : Int) (A2 : Option Addr) (cap2 n2 : Nat) (w : World) (hd : d.size ≤ 300) (hm : mayReqB c s k i m d.size = true) (l1 l2 : List Int) (hn1 : n1 = l1.length) (hn2 : n2 = l2.length) (h1 : n1 ≤ 8) (h2 : n2 ≤ 8) (hc1 : l1.length ≤ cap1) (hc2 : l2.length ≤ cap2) (hs1 : Sl i64 w A1 l1) (hs2 : Sl i64 w A2 l2) (hmc : mayChainB ep1 l1 = true) (hmd : mayChainB ep2 l2 = true) :
    Calls Try.prog 11 #[.agg #[.int .i64 c, .int .i64 s, .int .i64 k, .int .i64 i, .int .i64 m, .string d], .agg #[.int .i64 c, .int .i64 s, .int .i64 k, .int .i64 i, .int .i64 m, .string d], .agg #[.int .i64 ep1, .slice A1 n1 cap1], .agg #[.int .i64 ep2, .slice A2 n2 cap2]] w fun e w' => e = .returned (.bool true) ∧ Below w.heap.size w w' := by
  refine hide_post fun D hD => ?_
  obtain ⟨W0, hW0⟩ : ∃ W0, W0 = ((((w.alloc (.cells #[.int .i64 c, .int .i64 s, .int .i64 k, .int .i64 i, .int .i64 m, .string d] 30)).alloc (.cells #[.int .i64 c, .int .i64 s, .int .i64 k, .int .i64 i, .int .i64 m, .string d] 30)).alloc (.cells #[.int .i64 ep1, .slice A1 n1 cap1] 39)).alloc (.cells #[.int .i64 ep2, .slice A2 n2 cap2] 39)) := ⟨_, rfl⟩
  have hx0 : Ext w W0 := by rw [hW0]; exact Ext.trans (Ext.trans (Ext.trans (Ext.alloc _ _) (Ext.alloc _ _)) (Ext.alloc _ _)) (Ext.alloc _ _)
  have kb0 : Blk W0 w.heap.size 30 #[.int .i64 c, .int .i64 s, .int .i64 k, .int .i64 i, .int .i64 m, .string d] := by rw [hW0]; exact (((Blk.new _ _ _).alloc _).alloc _).alloc _
  have fz00 : ∀ V, Ext W0 V → V.cell? ⟨w.heap.size, 0, none⟩ = some (.int .i64 c) := fun V h => (kb0.stay h).cell 0
  have fz01 : ∀ V, Ext W0 V → V.cell? ⟨w.heap.size, 1, none⟩ = some (.int .i64 s) := fun V h => (kb0.stay h).cell 1
  have fz02 : ∀ V, Ext W0 V → V.cell? ⟨w.heap.size, 2, none⟩ = some (.int .i64 k) := fun V h => (kb0.stay h).cell 2
  have fz03 : ∀ V, Ext W0 V → V.cell? ⟨w.heap.size, 3, none⟩ = some (.int .i64 i) := fun V h => (kb0.stay h).cell 3
  have fz04 : ∀ V, Ext W0 V → V.cell? ⟨w.heap.size, 4, none⟩ = some (.int .i64 m) := fun V h => (kb0.stay h).cell 4
  have fz05 : ∀ V, Ext W0 V → V.cell? ⟨w.heap.size, 5, none⟩ = some (.string d) := fun V h => (kb0.stay h).cell 5
  have kb1 : Blk W0 (w.heap.size + 1) 30 #[.int .i64 c, .int .i64 s, .int .i64 k, .int .i64 i, .int .i64 m, .string d] := by rw [hW0]; exact ((Blk.new' _ _ _ _ (by simp)).alloc _).alloc _
  have fz10 : ∀ V, Ext W0 V → V.cell? ⟨(w.heap.size + 1), 0, none⟩ = some (.int .i64 c) := fun V h => (kb1.stay h).cell 0
  have fz11 : ∀ V, Ext W0 V → V.cell? ⟨(w.heap.size + 1), 1, none⟩ = some (.int .i64 s) := fun V h => (kb1.stay h).cell 1
  have fz12 : ∀ V, Ext W0 V → V.cell? ⟨(w.heap.size + 1), 2, none⟩ = some (.int .i64 k) := fun V h => (kb1.stay h).cell 2
  have fz13 : ∀ V, Ext W0 V → V.cell? ⟨(w.heap.size + 1), 3, none⟩ = some (.int .i64 i) := fun V h => (kb1.stay h).cell 3
  have fz14 : ∀ V, Ext W0 V → V.cell? ⟨(w.heap.size + 1), 4, none⟩ = some (.int .i64 m) := fun V h => (kb1.stay h).cell 4
  have fz15 : ∀ V, Ext W0 V → V.cell? ⟨(w.heap.size + 1), 5, none⟩ = some (.string d) := fun V h => (kb1.stay h).cell 5
  have kb2 : Blk W0 (w.heap.size + 1 + 1) 39 #[.int .i64 ep1, .slice A1 n1 cap1] := by rw [hW0]; exact (Blk.new' _ _ _ _ (by simp)).alloc _
  have fz20 : ∀ V, Ext W0 V → V.cell? ⟨(w.heap.size + 1 + 1), 0, none⟩ = some (.int .i64 ep1) := fun V h => (kb2.stay h).cell 0
  have fz21 : ∀ V, Ext W0 V → V.cell? ⟨(w.heap.size + 1 + 1), 1, none⟩ = some (.slice A1 n1 cap1) := fun V h => (kb2.stay h).cell 1
  have kb3 : Blk W0 (w.heap.size + 1 + 1 + 1) 39 #[.int .i64 ep2, .slice A2 n2 cap2] := by rw [hW0]; exact Blk.new' _ _ _ _ (by simp)
  have fz30 : ∀ V, Ext W0 V → V.cell? ⟨(w.heap.size + 1 + 1 + 1), 0, none⟩ = some (.int .i64 ep2) := fun V h => (kb3.stay h).cell 0
  have fz31 : ∀ V, Ext W0 V → V.cell? ⟨(w.heap.size + 1 + 1 + 1), 1, none⟩ = some (.slice A2 n2 cap2) := fun V h => (kb3.stay h).cell 1
  have HW0 := Lib.hid hW0
  have HX0 := Lib.hid hx0
  have E0 : Hid (Ext W0 W0) := Ext.refl _
  have HT : Hid (∀ V, Ext W0 V → Calls Try.prog 29 #[] V fun e w' => e = .returned (.bool true) ∧ Ext V w') := fun V _ => told2 V
  have hdm : d.size ≤ maxLen := by unfold maxLen; omega
  have CFa : Hid (∀ V, Ext W0 V → Calls Try.prog 28 #[.agg #[.int .i64 c, .int .i64 s, .int .i64 k, .int .i64 i, .int .i64 m, .string d]] V fun e w' => e = .returned (.bool true) ∧ Ext V w') := fun V _ => by have h := few_any c s k i m d V hdm; rw [decide_eq_true hd] at h; exact h
  have CFb : Hid (∀ V, Ext W0 V → Calls Try.prog 28 #[.agg #[.int .i64 c, .int .i64 s, .int .i64 k, .int .i64 i, .int .i64 m, .string d]] V fun e w' => e = .returned (.bool true) ∧ Ext V w') := fun V _ => by have h := few_any c s k i m d V hdm; rw [decide_eq_true hd] at h; exact h
  obtain ⟨qa, qam, qae⟩ := rq_of hm
  obtain ⟨XA, hXA⟩ : ∃ L, L = putB qa := ⟨_, rfl⟩
  obtain ⟨x1, hx1⟩ : ∃ n, n = (putB qa).length := ⟨_, rfl⟩
  have CPa : Hid (∀ V, Ext W0 V → Calls Try.prog 31 #[.agg #[.int .i64 c, .int .i64 s, .int .i64 k, .int .i64 i, .int .i64 m, .string d]] V fun e w' => ∃ A' c', e = .returned (.tuple #[.slice A' x1 c', .int .i64 0]) ∧ Sl Go.Proofs.Ytdbnaflaobncgaa.u8 w' A' XA ∧ Ext V w') := fun V hV => by
    rw [qae, hx1, hXA]; exact putReq_yes qa V qam
  have CPb : Hid (∀ V, Ext W0 V → Calls Try.prog 31 #[.agg #[.int .i64 c, .int .i64 s, .int .i64 k, .int .i64 i, .int .i64 m, .string d]] V fun e w' => ∃ A' c', e = .returned (.tuple #[.slice A' x1 c', .int .i64 0]) ∧ Sl Go.Proofs.Ytdbnaflaobncgaa.u8 w' A' XA ∧ Ext V w') := fun V hV => by
    rw [qae, hx1, hXA]; exact putReq_yes qa V qam
  obtain ⟨sa, hsa⟩ : ∃ z, z = str XA := ⟨_, rfl⟩
  have HVA : Hid (∀ V A' c', Sl Go.Proofs.Ytdbnaflaobncgaa.u8 V A' XA → ∀ W, Ext V W → (convert 54 9 (.slice A' x1 c')).run Try.prog W = .ok (.string sa) W) := fun V A' c' h W hW => by
    have := run_str (P := Try.prog) (w := W) 54 9 5 A' XA c' Try.underlying54 Try.underlying5 Try.underlying9 (h.stay hW)
    rw [hx1, hsa, ← hXA]
    exact this
  obtain ⟨e7, ns7, he7, hl7⟩ := mayChainB_ints hmc
  obtain ⟨X7, hX7⟩ : ∃ L, L = putC e7 ns7 := ⟨_, rfl⟩
  obtain ⟨z7, hz7⟩ : ∃ n, n = (putC e7 ns7).length := ⟨_, rfl⟩
  have CPc : Hid (∀ V, Ext W0 V → Calls Try.prog 38 #[.agg #[.int .i64 ep1, .slice A1 n1 cap1]] V fun e w' => ∃ A' c', e = .returned (.tuple #[.slice A' z7 c', .int .i64 0]) ∧ Sl Go.Proofs.Ytdbnaflaobncgaa.u8 w' A' X7 ∧ Ext V w') := fun V hV => by
    have h := putChain_yes e7 A1 cap1 ns7 V (by rw [hl7, ints_len] at hc1; exact hc1) (by rw [← hl7]; exact hs1.stay (Ext.trans hx0 hV)) (by rw [← he7, ← hl7]; exact hmc)
    rw [he7, hn1, hl7, ints_len, hz7, hX7]
    exact h
  obtain ⟨e8, ns8, he8, hl8⟩ := mayChainB_ints hmd
  obtain ⟨X8, hX8⟩ : ∃ L, L = putC e8 ns8 := ⟨_, rfl⟩
  obtain ⟨z8, hz8⟩ : ∃ n, n = (putC e8 ns8).length := ⟨_, rfl⟩
  have CPd : Hid (∀ V, Ext W0 V → Calls Try.prog 38 #[.agg #[.int .i64 ep2, .slice A2 n2 cap2]] V fun e w' => ∃ A' c', e = .returned (.tuple #[.slice A' z8 c', .int .i64 0]) ∧ Sl Go.Proofs.Ytdbnaflaobncgaa.u8 w' A' X8 ∧ Ext V w') := fun V hV => by
    have h := putChain_yes e8 A2 cap2 ns8 V (by rw [hl8, ints_len] at hc2; exact hc2) (by rw [← hl8]; exact hs2.stay (Ext.trans hx0 hV)) (by rw [← he8, ← hl8]; exact hmd)
    rw [he8, hn2, hl8, ints_len, hz8, hX8]
    exact h
  obtain ⟨sc, hsc⟩ : ∃ z, z = str X7 := ⟨_, rfl⟩
  obtain ⟨sd, hsd⟩ : ∃ z, z = str X8 := ⟨_, rfl⟩
  have HVC : Hid (∀ V A' c', Sl Go.Proofs.Ytdbnaflaobncgaa.u8 V A' X7 → ∀ W, Ext V W → (convert 54 9 (.slice A' z7 c')).run Try.prog W = .ok (.string sc) W) := fun V A' c' h W hW => by
    have := run_str (P := Try.prog) (w := W) 54 9 5 A' X7 c' Try.underlying54 Try.underlying5 Try.underlying9 (h.stay hW)
    rw [hz7, hsc, ← hX7]
    exact this
  have HVD : Hid (∀ V A' c', Sl Go.Proofs.Ytdbnaflaobncgaa.u8 V A' X8 → ∀ W, Ext V W → (convert 54 9 (.slice A' z8 c')).run Try.prog W = .ok (.string sd) W) := fun V A' c' h W hW => by
    have := run_str (P := Try.prog) (w := W) 54 9 5 A' X8 c' Try.underlying54 Try.underlying5 Try.underlying9 (h.stay hW)
    rw [hz8, hsd, ← hX8]
    exact this
  have HSS : Hid (sc = sd ↔ (ep1 = ep2 ∧ l1 = l2)) := by
    show _ ↔ _
    constructor
    · intro e
      have e2 : X7 = X8 := by rw [hsc, hsd] at e; exact str_inj e
      rw [hX7, hX8] at e2
      obtain ⟨g1, g2, _⟩ := putC_inj (r := []) (r' := []) (by rw [← he7, ← hl7]; exact hmc) (by rw [← he8, ← hl8]; exact hmd) (by rw [e2])
      exact ⟨by rw [he7, he8, g1], by rw [hl7, hl8, g2]⟩
    · rintro ⟨g1, g2⟩
      have g3 : e7 = e8 := by rw [he7, he8] at g1; omega
      have g4 : ns7 = ns8 := by rw [hl7, hl8] at g2; exact ints_inj g2
      rw [hsc, hsd, hX7, hX8, g3, g4]
  have HL1 : Hid (n1 = l1.length) := hn1
  have HL2 : Hid (n2 = l2.length) := hn2
  have HSC : Hid (∀ V, Ext W0 V → Sl i64 V A1 l1) := fun V hV => hs1.stay (Ext.trans hx0 hV)
  have HSD : Hid (∀ V, Ext W0 V → Sl i64 V A2 l2) := fun V hV => hs2.stay (Ext.trans hx0 hV)
  have b1 : ¬ (8 : Int) < (n1 : Int) := by omega
  have b2 : ¬ (8 : Int) < (n2 : Int) := by omega
  clear kb0 kb1 kb2 kb3 hx0 hW0 hdm hd hm hn1 hn2 hc1 hc2 hs1 hs2 hmc hmd qae qam hx1 hXA hsa he7 hl7 hX7 hz7 he8 hl8 hX8 hz8 hsc hsd
  go_enter Try.func11, Try.ntmps11
  go_wp2_with fail
  rw [← HW0.out]
  have e0 := E0.out
  have W0z00 := fz00 W0 E0.out; have W0z01 := fz01 W0 E0.out; have W0z02 := fz02 W0 E0.out; have W0z03 := fz03 W0 E0.out; have W0z04 := fz04 W0 E0.out; have W0z05 := fz05 W0 E0.out; have W0z10 := fz10 W0 E0.out; have W0z11 := fz11 W0 E0.out; have W0z12 := fz12 W0 E0.out; have W0z13 := fz13 W0 E0.out; have W0z14 := fz14 W0 E0.out; have W0z15 := fz15 W0 E0.out; have W0z20 := fz20 W0 E0.out; have W0z21 := fz21 W0 E0.out; have W0z30 := fz30 W0 E0.out; have W0z31 := fz31 W0 E0.out
  go_wp2_with (first
    | (go_at_call 28; (with_reducible refine (CFa.out _ e0).mono ?_); rintro e w1 ⟨rfl, hx⟩; have Ew1 : Ext W0 w1 := Ext.trans e0 hx; have w1z00 := fz00 w1 Ew1; have w1z01 := fz01 w1 Ew1; have w1z02 := fz02 w1 Ew1; have w1z03 := fz03 w1 Ew1; have w1z04 := fz04 w1 Ew1; have w1z05 := fz05 w1 Ew1; have w1z10 := fz10 w1 Ew1; have w1z11 := fz11 w1 Ew1; have w1z12 := fz12 w1 Ew1; have w1z13 := fz13 w1 Ew1; have w1z14 := fz14 w1 Ew1; have w1z15 := fz15 w1 Ew1; have w1z20 := fz20 w1 Ew1; have w1z21 := fz21 w1 Ew1; have w1z30 := fz30 w1 Ew1; have w1z31 := fz31 w1 Ew1; clear hx)
    | (go_at_call 28; (with_reducible refine (CFb.out _ Ew1).mono ?_); rintro e w2 ⟨rfl, hx⟩; have Ew2 : Ext W0 w2 := Ext.trans Ew1 hx; have w2z00 := fz00 w2 Ew2; have w2z01 := fz01 w2 Ew2; have w2z02 := fz02 w2 Ew2; have w2z03 := fz03 w2 Ew2; have w2z04 := fz04 w2 Ew2; have w2z05 := fz05 w2 Ew2; have w2z10 := fz10 w2 Ew2; have w2z11 := fz11 w2 Ew2; have w2z12 := fz12 w2 Ew2; have w2z13 := fz13 w2 Ew2; have w2z14 := fz14 w2 Ew2; have w2z15 := fz15 w2 Ew2; have w2z20 := fz20 w2 Ew2; have w2z21 := fz21 w2 Ew2; have w2z30 := fz30 w2 Ew2; have w2z31 := fz31 w2 Ew2; clear hx)
    | (go_at_call 31; (with_reducible refine (CPa.out _ Ew2).mono ?_); rintro e w3 ⟨Aa, ca, rfl, hsx, hx⟩; have Ew3 : Ext W0 w3 := Ext.trans Ew2 hx; have w3z00 := fz00 w3 Ew3; have w3z01 := fz01 w3 Ew3; have w3z02 := fz02 w3 Ew3; have w3z03 := fz03 w3 Ew3; have w3z04 := fz04 w3 Ew3; have w3z05 := fz05 w3 Ew3; have w3z10 := fz10 w3 Ew3; have w3z11 := fz11 w3 Ew3; have w3z12 := fz12 w3 Ew3; have w3z13 := fz13 w3 Ew3; have w3z14 := fz14 w3 Ew3; have w3z15 := fz15 w3 Ew3; have w3z20 := fz20 w3 Ew3; have w3z21 := fz21 w3 Ew3; have w3z30 := fz30 w3 Ew3; have w3z31 := fz31 w3 Ew3; have HSA := Lib.hid hsx; clear hsx; clear hx)
    | (go_at_call 31; (with_reducible refine (CPb.out _ Ew3).mono ?_); rintro e w4 ⟨Ab, cb, rfl, hsx, hx⟩; have Ew4 : Ext W0 w4 := Ext.trans Ew3 hx; have w4z00 := fz00 w4 Ew4; have w4z01 := fz01 w4 Ew4; have w4z02 := fz02 w4 Ew4; have w4z03 := fz03 w4 Ew4; have w4z04 := fz04 w4 Ew4; have w4z05 := fz05 w4 Ew4; have w4z10 := fz10 w4 Ew4; have w4z11 := fz11 w4 Ew4; have w4z12 := fz12 w4 Ew4; have w4z13 := fz13 w4 Ew4; have w4z14 := fz14 w4 Ew4; have w4z15 := fz15 w4 Ew4; have w4z20 := fz20 w4 Ew4; have w4z21 := fz21 w4 Ew4; have w4z30 := fz30 w4 Ew4; have w4z31 := fz31 w4 Ew4; have HSB := Lib.hid hsx; have HSA2 : Hid (Sl Go.Proofs.Ytdbnaflaobncgaa.u8 w4 Aa XA) := HSA.out.stay hx; clear hsx; clear hx))
  have EW4 := Lib.hid Ew4
  clear W0z00 W0z01 W0z02 W0z03 W0z04 W0z05 W0z10 W0z11 W0z12 W0z13 W0z14 W0z15 W0z20 W0z21 W0z30 W0z31 w1z00 w1z01 w1z02 w1z03 w1z04 w1z05 w1z10 w1z11 w1z12 w1z13 w1z14 w1z15 w1z20 w1z21 w1z30 w1z31 w2z00 w2z01 w2z02 w2z03 w2z04 w2z05 w2z10 w2z11 w2z12 w2z13 w2z14 w2z15 w2z20 w2z21 w2z30 w2z31 w3z00 w3z01 w3z02 w3z03 w3z04 w3z05 w3z10 w3z11 w3z12 w3z13 w3z14 w3z15 w3z20 w3z21 w3z30 w3z31 w4z00 w4z01 w4z02 w4z03 w4z04 w4z05 w4z10 w4z11 w4z12 w4z13 w4z14 w4z15 w4z20 w4z21 w4z30 w4z31 Ew1 Ew2 Ew3 Ew4
  have hcva : ∀ W, Ext w4 W → (convert 54 9 (.slice Aa x1 ca)).run Try.prog W = .ok (.string sa) W := HVA.out _ _ _ HSA2.out
  have hcvb : ∀ W, Ext w4 W → (convert 54 9 (.slice Ab x1 cb)).run Try.prog W = .ok (.string sa) W := HVA.out _ _ _ HSB.out
  have X44 : Hid (Ext w4 w4) := Ext.refl _
  have fy00 : ∀ V, Ext w4 V → V.cell? ⟨w.heap.size, 0, none⟩ = some (.int .i64 c) := fun V h => fz00 V (Ext.trans EW4.out h)
  have fy01 : ∀ V, Ext w4 V → V.cell? ⟨w.heap.size, 1, none⟩ = some (.int .i64 s) := fun V h => fz01 V (Ext.trans EW4.out h)
  have fy02 : ∀ V, Ext w4 V → V.cell? ⟨w.heap.size, 2, none⟩ = some (.int .i64 k) := fun V h => fz02 V (Ext.trans EW4.out h)
  have fy03 : ∀ V, Ext w4 V → V.cell? ⟨w.heap.size, 3, none⟩ = some (.int .i64 i) := fun V h => fz03 V (Ext.trans EW4.out h)
  have fy04 : ∀ V, Ext w4 V → V.cell? ⟨w.heap.size, 4, none⟩ = some (.int .i64 m) := fun V h => fz04 V (Ext.trans EW4.out h)
  have fy05 : ∀ V, Ext w4 V → V.cell? ⟨w.heap.size, 5, none⟩ = some (.string d) := fun V h => fz05 V (Ext.trans EW4.out h)
  have fy10 : ∀ V, Ext w4 V → V.cell? ⟨(w.heap.size + 1), 0, none⟩ = some (.int .i64 c) := fun V h => fz10 V (Ext.trans EW4.out h)
  have fy11 : ∀ V, Ext w4 V → V.cell? ⟨(w.heap.size + 1), 1, none⟩ = some (.int .i64 s) := fun V h => fz11 V (Ext.trans EW4.out h)
  have fy12 : ∀ V, Ext w4 V → V.cell? ⟨(w.heap.size + 1), 2, none⟩ = some (.int .i64 k) := fun V h => fz12 V (Ext.trans EW4.out h)
  have fy13 : ∀ V, Ext w4 V → V.cell? ⟨(w.heap.size + 1), 3, none⟩ = some (.int .i64 i) := fun V h => fz13 V (Ext.trans EW4.out h)
  have fy14 : ∀ V, Ext w4 V → V.cell? ⟨(w.heap.size + 1), 4, none⟩ = some (.int .i64 m) := fun V h => fz14 V (Ext.trans EW4.out h)
  have fy15 : ∀ V, Ext w4 V → V.cell? ⟨(w.heap.size + 1), 5, none⟩ = some (.string d) := fun V h => fz15 V (Ext.trans EW4.out h)
  refine ext_begin (by kernel_rfl) ?_
  have X44d := Lib.hid (Ext.drewR X44.out)
  refine ext_take (i := 0) (v := ?_) rfl (by kernel_rfl) (by kernel_rfl) (by kernel_rfl) (fun _ _ _ h => h) (by rfl) ?_ ?_
  rotate_left
  · intro W hW; have hW0 := Ext.trans X44d.out hW; clear hW; go_simp <;> with_reducible rfl
  try simp only [Act.put, List.setIfInBounds_toArray, List.set_cons_zero, List.set_cons_succ]
  refine ext_take (i := 1) (v := ?_) rfl (by kernel_rfl) (by kernel_rfl) (by kernel_rfl) (fun _ _ _ h => h) (by rfl) ?_ ?_
  rotate_left
  · intro W hW; have hW0 := Ext.trans X44d.out hW; clear hW; go_simp <;> with_reducible rfl
  try simp only [Act.put, List.setIfInBounds_toArray, List.set_cons_zero, List.set_cons_succ]
  refine ext_take (i := 2) (v := ?_) rfl (by kernel_rfl) (by kernel_rfl) (by kernel_rfl) (fun _ _ _ h => h) (by rfl) ?_ ?_
  rotate_left
  · intro W hW; have hW0 := Ext.trans X44d.out hW; clear hW; go_simp <;> with_reducible rfl
  try simp only [Act.put, List.setIfInBounds_toArray, List.set_cons_zero, List.set_cons_succ]
  refine ext_take (i := 3) (v := ?_) rfl (by kernel_rfl) (by kernel_rfl) (by kernel_rfl) (fun _ _ _ h => h) (by rfl) ?_ ?_
  rotate_left
  · intro W hW; have hW0 := Ext.trans X44d.out hW; clear hW; go_simp <;> with_reducible rfl
  try simp only [Act.put, List.setIfInBounds_toArray, List.set_cons_zero, List.set_cons_succ]
  refine ext_take (i := 4) (v := ?_) rfl (by kernel_rfl) (by kernel_rfl) (by kernel_rfl) (fun _ _ _ h => h) (by rfl) ?_ ?_
  rotate_left
  · intro W hW; have hW0 := Ext.trans X44d.out hW; clear hW; go_simp <;> with_reducible rfl
  try simp only [Act.put, List.setIfInBounds_toArray, List.set_cons_zero, List.set_cons_succ]
  refine ext_take (i := 5) (v := ?_) rfl (by kernel_rfl) (by kernel_rfl) (by kernel_rfl) (fun _ _ _ h => h) (by rfl) ?_ ?_
  rotate_left
  · intro W hW; have hW0 := Ext.trans X44d.out hW; clear hW; go_simp <;> with_reducible rfl
  try simp only [Act.put, List.setIfInBounds_toArray, List.set_cons_zero, List.set_cons_succ]
  refine ext_take (i := 6) (v := ?_) rfl (by kernel_rfl) (by kernel_rfl) (by kernel_rfl) (fun _ _ _ h => h) (by rfl) ?_ ?_
  rotate_left
  · intro W hW; have hW0 := Ext.trans X44d.out hW; clear hW; go_simp <;> with_reducible rfl
  try simp only [Act.put, List.setIfInBounds_toArray, List.set_cons_zero, List.set_cons_succ]
  refine ext_take (i := 7) (v := ?_) rfl (by kernel_rfl) (by kernel_rfl) (by kernel_rfl) (fun _ _ _ h => h) (by rfl) ?_ ?_
  rotate_left
  · intro W hW; have hW0 := Ext.trans X44d.out hW; clear hW; go_simp <;> with_reducible rfl
  try simp only [Act.put, List.setIfInBounds_toArray, List.set_cons_zero, List.set_cons_succ]
  refine ext_take (i := 8) (v := .string sa) rfl (by kernel_rfl) (by kernel_rfl) (by kernel_rfl) (fun _ _ _ h => h) (by rfl) ?_ ?_
  · intro W hW; have hW0 := Ext.trans X44d.out hW; clear hW; have hh := hcva W hW0; go_simp; all_goals (first | exact hh | (rw [hh]; done) | (rw [hh]; rfl))
  try simp only [Act.put, List.setIfInBounds_toArray, List.set_cons_zero, List.set_cons_succ]
  refine ext_take (i := 9) (v := ?_) rfl (by kernel_rfl) (by kernel_rfl) (by kernel_rfl) (fun _ _ _ h => h) (by rfl) ?_ ?_
  rotate_left
  · intro W hW; have hW0 := Ext.trans X44d.out hW; clear hW; go_simp <;> with_reducible rfl
  try simp only [Act.put, List.setIfInBounds_toArray, List.set_cons_zero, List.set_cons_succ]
  refine ext_take (i := 10) (v := .string sa) rfl (by kernel_rfl) (by kernel_rfl) (by kernel_rfl) (fun _ _ _ h => h) (by rfl) ?_ ?_
  · intro W hW; have hW0 := Ext.trans X44d.out hW; clear hW; have hh := hcvb W hW0; go_simp; all_goals (first | exact hh | (rw [hh]; done) | (rw [hh]; rfl))
  try simp only [Act.put, List.setIfInBounds_toArray, List.set_cons_zero, List.set_cons_succ]
  refine ext_take (i := 11) (v := ?_) rfl (by kernel_rfl) (by kernel_rfl) (by kernel_rfl) (fun _ _ _ h => h) (by rfl) ?_ ?_
  rotate_left
  · intro W hW; have hW0 := Ext.trans X44d.out hW; clear hW; go_simp <;> with_reducible rfl
  try simp only [Act.put, List.setIfInBounds_toArray, List.set_cons_zero, List.set_cons_succ]
  refine ext_take (i := 12) (v := ?_) rfl (by kernel_rfl) (by kernel_rfl) (by kernel_rfl) (fun _ _ _ h => h) (by rfl) ?_ ?_
  rotate_left
  · intro W hW; have hW0 := Ext.trans X44d.out hW; clear hW; go_simp <;> with_reducible rfl
  try simp only [Act.put, List.setIfInBounds_toArray, List.set_cons_zero, List.set_cons_succ]
  refine ext_take (i := 13) (v := ?_) rfl (by kernel_rfl) (by kernel_rfl) (by kernel_rfl) (fun _ _ _ h => h) (by rfl) ?_ ?_
  rotate_left
  · intro W hW; have hW0 := Ext.trans X44d.out hW; clear hW; go_simp <;> with_reducible rfl
  try simp only [Act.put, List.setIfInBounds_toArray, List.set_cons_zero, List.set_cons_succ]
  refine ext_take (i := 14) (v := ?_) rfl (by kernel_rfl) (by kernel_rfl) (by kernel_rfl) (fun _ _ _ h => h) (by rfl) ?_ ?_
  rotate_left
  · intro W hW; have hW0 := Ext.trans X44d.out hW; clear hW; go_simp <;> with_reducible rfl
  try simp only [Act.put, List.setIfInBounds_toArray, List.set_cons_zero, List.set_cons_succ]
  refine ext_take (i := 15) (v := ?_) rfl (by kernel_rfl) (by kernel_rfl) (by kernel_rfl) (fun _ _ _ h => h) (by rfl) ?_ ?_
  rotate_left
  · intro W hW; have hW0 := Ext.trans X44d.out hW; clear hW; go_simp <;> with_reducible rfl
  try simp only [Act.put, List.setIfInBounds_toArray, List.set_cons_zero, List.set_cons_succ]
  refine ext_take (i := 16) (v := ?_) rfl (by kernel_rfl) (by kernel_rfl) (by kernel_rfl) (fun _ _ _ h => h) (by rfl) ?_ ?_
  rotate_left
  · intro W hW; have hW0 := Ext.trans X44d.out hW; clear hW; go_simp <;> with_reducible rfl
  try simp only [Act.put, List.setIfInBounds_toArray, List.set_cons_zero, List.set_cons_succ]
  refine wpAnyH_done (by kernel_rfl) ?_ _
  have EX : Hid (Ext W0 w4.drew) := Ext.trans EW4.out X44d.out
  clear X44d hcva hcvb fy00 fy01 fy02 fy03 fy04 fy05 fy10 fy11 fy12 fy13 fy14 fy15
  have ex := EX.out
  have wd20 := fz20 _ ex
  have wd21 := fz21 _ ex
  have wd30 := fz30 _ ex
  have wd31 := fz31 _ ex
  by_cases hee : ep1 = ep2 ∧ n1 = n2
  · obtain ⟨rfl, hnn⟩ := hee
    subst hnn
    go_wp2_with (first
      | (go_at_call 38; (with_reducible refine (CPc.out _ ex).mono ?_); rintro e w5 ⟨Ac, cc, rfl, hsx, hx⟩; have Ew5 : Ext W0 w5 := Ext.trans ex hx; have w5z20 := fz20 w5 Ew5; have w5z21 := fz21 w5 Ew5; have w5z30 := fz30 w5 Ew5; have w5z31 := fz31 w5 Ew5; have HSc := Lib.hid hsx; clear hsx; clear hx)
      | (go_at_call 38; (with_reducible refine (CPd.out _ Ew5).mono ?_); rintro e w6 ⟨Ad, cd, rfl, hsx, hx⟩; have Ew6 : Ext W0 w6 := Ext.trans Ew5 hx; have w6z20 := fz20 w6 Ew6; have w6z21 := fz21 w6 Ew6; have w6z30 := fz30 w6 Ew6; have w6z31 := fz31 w6 Ew6; have HSd := Lib.hid hsx; have HSc2 : Hid (Sl Go.Proofs.Ytdbnaflaobncgaa.u8 w6 Ac X7) := HSc.out.stay hx; clear hsx; clear hx))
    go_loopw [17, 18] (fun b i wr => ∃ (k : Nat) (bv : Bool), k ≤ n1 ∧ b = .bool bv ∧ i = .int .i64 k ∧ Hid ((bv = true → l1.take k = l2.take k) ∧ (bv = false → ¬ l1 = l2)) ∧ Hid (Ext W0 wr ∧ Ext w6 wr)) (fun _ i _ => n1 - (intOf i).toNat)
    case atStart => exact ⟨0, true, Nat.zero_le _, rfl, rfl, ⟨fun _ => rfl, fun h => by simp at h⟩, Ew6, Ext.refl _⟩
    case round =>
      obtain ⟨k, bv, hk, rfl, rfl, HI, HE⟩ := hrel
      have eW := HE.out.1
      have eW6 := HE.out.2
      have wrz20 := fz20 wr eW; have wrz21 := fz21 wr eW; have wrz30 := fz30 wr eW; have wrz31 := fz31 wr eW
      cases bv with
      | false =>
        have hne := HI.out.2 rfl
        have hsn : ¬ sc.toList = sd.toList := fun e => hne (HSS.out.1 (Go.WideShapes.bytes_inj (by rw [← ByteArray.toList_eq, ← ByteArray.toList_eq]; exact e))).2
        clear HI
        go_wp2_with (go_at_call 29; (with_reducible refine (HT.out _ eW).mono ?_); rintro e w9 ⟨rfl, hx⟩; have E9 : Ext W0 w9 := Ext.trans eW hx; have hv1 := HVC.out _ Ac cc HSc2.out w9 (Ext.trans eW6 hx); have hv2 := HVD.out _ Ad cd HSd.out w9 (Ext.trans eW6 hx); clear hx)
        try go_ret
        first | exact hD.out _ _ ⟨rfl, Ext.trans HX0.out E9⟩ | exact hD.out _ _ ⟨ret_bool (show (!(sc.toList == sd.toList)) = true by simp [hsn]), Ext.trans HX0.out E9⟩
      | true =>
        have htk := Lib.hid (HI.out.1 rfl)
        clear HI
        by_cases hlt : k < n1
        · have hs1 := HSC.out _ eW
          have hs2 := HSD.out _ eW
          obtain ⟨g1, o1, rfl, hc1⟩ := hs1.at_ (k := k) (by have := HL1.out; omega)
          obtain ⟨g2, o2, rfl, hc2⟩ := hs2.at_ (k := k) (by have := HL2.out; omega)
          have hk1 : k < l1.length := by have := HL1.out; omega
          have hk2 : k < l2.length := by have := HL2.out; omega
          have HT1 : Hid (l1.take (k + 1) = l1.take k ++ [l1[k]]) := List.take_succ_eq_append_getElem hk1
          have HT2 : Hid (l2.take (k + 1) = l2.take k ++ [l2[k]]) := List.take_succ_eq_append_getElem hk2
          have HG : Hid (¬ l1[k] = l2[k] → ¬ l1 = l2) := fun h e => h (by subst e; rfl)
          clear hs1 hs2
          generalize l1[k] = x at *
          generalize l2[k] = y at *
          unfold i64 at hc1 hc2
          have hk0 : (0 : Int) ≤ (k : Int) := by omega
          have hk3 : (k : Int) < (n1 : Int) := by omega
          by_cases hxy : x = y
          · subst hxy
            go_wp2
            go_quiet (fail)
            go_wp2
            go_roundw
            case rel => exact ⟨k + 1, true, by omega, by first | rfl | simp, by go_num, ⟨fun _ => by rw [HT1.out, HT2.out, htk.out], fun h => by simp at h⟩, HE.out.1.drewN, HE.out.2.drewN⟩
            case measure => simp [intOf]; omega
          · have hn := HG.out hxy
            go_wp2
            go_quiet (fail)
            go_wp2
            go_roundw
            case rel => exact ⟨k + 1, false, by omega, by first | rfl | simp [hxy], by go_num, ⟨fun h => by simp at h, fun _ => hn⟩, HE.out.1.drewN, HE.out.2.drewN⟩
            case measure => simp [intOf]; omega
        · have hk3 : ¬ (k : Int) < (n1 : Int) := by omega
          have e1 : l1 = l2 := by
            have h := htk.out
            rw [List.take_of_length_le (by have := HL1.out; omega), List.take_of_length_le (by have := HL2.out; omega)] at h
            exact h
          have e2 : sc = sd := HSS.out.2 (by first | exact ⟨rfl, e1⟩ | exact ⟨trivial, e1⟩)
          subst e2
          go_wp2_with (go_at_call 29; (with_reducible refine (HT.out _ eW).mono ?_); rintro e w9 ⟨rfl, hx⟩; have E9 : Ext W0 w9 := Ext.trans eW hx; have hv1 := HVC.out _ Ac cc HSc2.out w9 (Ext.trans eW6 hx); have hv2 := HVD.out _ Ad cd HSd.out w9 (Ext.trans eW6 hx); clear hx)
          try go_ret
          first | exact hD.out _ _ ⟨rfl, Ext.trans HX0.out E9⟩ | exact hD.out _ _ ⟨ret_bool (show (!(sc.toList == sd.toList)) = true by simp [hsn]), Ext.trans HX0.out E9⟩
  · have hne : ¬ sc = sd := fun e => hee ⟨(HSS.out.1 e).1, by rw [HL1.out, HL2.out, (HSS.out.1 e).2]⟩
    have hsn : ¬ sc.toList = sd.toList := fun e => hne (Go.WideShapes.bytes_inj (by rw [← ByteArray.toList_eq, ← ByteArray.toList_eq]; exact e))
    by_cases hep : ep1 = ep2
    · subst hep
      have hnn : ¬ n1 = n2 := fun e => hee ⟨rfl, e⟩
      have hnn2 : ¬ (n1 : Int) = (n2 : Int) := by omega
      clear hee
      go_wp2_with (first
        | (go_at_call 38; (with_reducible refine (CPc.out _ ex).mono ?_); rintro e w5 ⟨Ac, cc, rfl, hsx, hx⟩; have Ew5 : Ext W0 w5 := Ext.trans ex hx; have w5z20 := fz20 w5 Ew5; have w5z21 := fz21 w5 Ew5; have w5z30 := fz30 w5 Ew5; have w5z31 := fz31 w5 Ew5; have HSc := Lib.hid hsx; clear hsx; clear hx)
        | (go_at_call 38; (with_reducible refine (CPd.out _ Ew5).mono ?_); rintro e w6 ⟨Ad, cd, rfl, hsx, hx⟩; have Ew6 : Ext W0 w6 := Ext.trans Ew5 hx; have w6z20 := fz20 w6 Ew6; have w6z21 := fz21 w6 Ew6; have w6z30 := fz30 w6 Ew6; have w6z31 := fz31 w6 Ew6; have HSd := Lib.hid hsx; have HSc2 : Hid (Sl Go.Proofs.Ytdbnaflaobncgaa.u8 w6 Ac X7) := HSc.out.stay hx; clear hsx; clear hx))
      go_loopw [17, 18] (fun b i wr => b = .bool false ∧ i = .int .i64 0 ∧ Hid (Ext W0 wr ∧ Ext w6 wr)) (fun _ _ _ => 0)
      case atStart => exact ⟨by first | rfl | (simp [hnn2]; done) | (simp; omega), rfl, Ew6, Ext.refl _⟩
      case round =>
        obtain ⟨rfl, rfl, HE⟩ := hrel
        have eW := HE.out.1
        have eW6 := HE.out.2
        have wrz20 := fz20 wr eW; have wrz21 := fz21 wr eW; have wrz30 := fz30 wr eW; have wrz31 := fz31 wr eW
        go_wp2_with (go_at_call 29; (with_reducible refine (HT.out _ eW).mono ?_); rintro e w9 ⟨rfl, hx⟩; have E9 : Ext W0 w9 := Ext.trans eW hx; have hv1 := HVC.out _ Ac cc HSc2.out w9 (Ext.trans eW6 hx); have hv2 := HVD.out _ Ad cd HSd.out w9 (Ext.trans eW6 hx); clear hx)
        try go_ret
        first | exact hD.out _ _ ⟨rfl, Ext.trans HX0.out E9⟩ | exact hD.out _ _ ⟨ret_bool (show (!(sc.toList == sd.toList)) = true by simp [hsn]), Ext.trans HX0.out E9⟩
    · clear hee
      go_wp2_with (first
        | (go_at_call 38; (with_reducible refine (CPc.out _ ex).mono ?_); rintro e w5 ⟨Ac, cc, rfl, hsx, hx⟩; have Ew5 : Ext W0 w5 := Ext.trans ex hx; have w5z20 := fz20 w5 Ew5; have w5z21 := fz21 w5 Ew5; have w5z30 := fz30 w5 Ew5; have w5z31 := fz31 w5 Ew5; have HSc := Lib.hid hsx; clear hsx; clear hx)
        | (go_at_call 38; (with_reducible refine (CPd.out _ Ew5).mono ?_); rintro e w6 ⟨Ad, cd, rfl, hsx, hx⟩; have Ew6 : Ext W0 w6 := Ext.trans Ew5 hx; have w6z20 := fz20 w6 Ew6; have w6z21 := fz21 w6 Ew6; have w6z30 := fz30 w6 Ew6; have w6z31 := fz31 w6 Ew6; have HSd := Lib.hid hsx; have HSc2 : Hid (Sl Go.Proofs.Ytdbnaflaobncgaa.u8 w6 Ac X7) := HSc.out.stay hx; clear hsx; clear hx))
      go_loopw [17, 18] (fun b i wr => b = .bool false ∧ i = .int .i64 0 ∧ Hid (Ext W0 wr ∧ Ext w6 wr)) (fun _ _ _ => 0)
      case atStart => exact ⟨by first | rfl | simp [hep], rfl, Ew6, Ext.refl _⟩
      case round =>
        obtain ⟨rfl, rfl, HE⟩ := hrel
        have eW := HE.out.1
        have eW6 := HE.out.2
        have wrz20 := fz20 wr eW; have wrz21 := fz21 wr eW; have wrz30 := fz30 wr eW; have wrz31 := fz31 wr eW
        go_wp2_with (go_at_call 29; (with_reducible refine (HT.out _ eW).mono ?_); rintro e w9 ⟨rfl, hx⟩; have E9 : Ext W0 w9 := Ext.trans eW hx; have hv1 := HVC.out _ Ac cc HSc2.out w9 (Ext.trans eW6 hx); have hv2 := HVD.out _ Ad cd HSd.out w9 (Ext.trans eW6 hx); clear hx)
        try go_ret
        first | exact hD.out _ _ ⟨rfl, Ext.trans HX0.out E9⟩ | exact hD.out _ _ ⟨ret_bool (show (!(sc.toList == sd.toList)) = true by simp [hsn]), Ext.trans HX0.out E9⟩

set_option maxRecDepth 8000 in
set_option maxHeartbeats 16000000 in
theorem apart_3_0 (c s k i m : Int) (d : ByteArray) (c2 s2 k2 i2 m2 : Int) (d2 : ByteArray) (ep1 : Int) (A1 : Option Addr) (cap1 n1 : Nat) (ep2 : Int) (A2 : Option Addr) (cap2 n2 : Nat) (w : World) (hd : d.size ≤ 300) (hd2 : d2.size ≤ 300) (hm : mayReqB c s k i m d.size = true) (hm2 : mayReqB c2 s2 k2 i2 m2 d2.size = true) (hne : ¬ (c = c2 ∧ s = s2 ∧ k = k2 ∧ i = i2 ∧ m = m2 ∧ d = d2)) (l1 l2 : List Int) (hn1 : n1 = l1.length) (hn2 : n2 = l2.length) (h1 : n1 ≤ 8) (h2 : n2 ≤ 8) (hc1 : l1.length ≤ cap1) (hc2 : l2.length ≤ cap2) (hs1 : Sl i64 w A1 l1) (hs2 : Sl i64 w A2 l2) (hmc : mayChainB ep1 l1 = false) :
    Calls Try.prog 11 #[.agg #[.int .i64 c, .int .i64 s, .int .i64 k, .int .i64 i, .int .i64 m, .string d], .agg #[.int .i64 c2, .int .i64 s2, .int .i64 k2, .int .i64 i2, .int .i64 m2, .string d2], .agg #[.int .i64 ep1, .slice A1 n1 cap1], .agg #[.int .i64 ep2, .slice A2 n2 cap2]] w fun e w' => e = .returned (.bool true) ∧ Below w.heap.size w w' := by
  refine hide_post fun D hD => ?_
  obtain ⟨W0, hW0⟩ : ∃ W0, W0 = ((((w.alloc (.cells #[.int .i64 c, .int .i64 s, .int .i64 k, .int .i64 i, .int .i64 m, .string d] 30)).alloc (.cells #[.int .i64 c2, .int .i64 s2, .int .i64 k2, .int .i64 i2, .int .i64 m2, .string d2] 30)).alloc (.cells #[.int .i64 ep1, .slice A1 n1 cap1] 39)).alloc (.cells #[.int .i64 ep2, .slice A2 n2 cap2] 39)) := ⟨_, rfl⟩
  have hx0 : Ext w W0 := by rw [hW0]; exact Ext.trans (Ext.trans (Ext.trans (Ext.alloc _ _) (Ext.alloc _ _)) (Ext.alloc _ _)) (Ext.alloc _ _)
  have kb0 : Blk W0 w.heap.size 30 #[.int .i64 c, .int .i64 s, .int .i64 k, .int .i64 i, .int .i64 m, .string d] := by rw [hW0]; exact (((Blk.new _ _ _).alloc _).alloc _).alloc _
  have fz00 : ∀ V, Ext W0 V → V.cell? ⟨w.heap.size, 0, none⟩ = some (.int .i64 c) := fun V h => (kb0.stay h).cell 0
  have fz01 : ∀ V, Ext W0 V → V.cell? ⟨w.heap.size, 1, none⟩ = some (.int .i64 s) := fun V h => (kb0.stay h).cell 1
  have fz02 : ∀ V, Ext W0 V → V.cell? ⟨w.heap.size, 2, none⟩ = some (.int .i64 k) := fun V h => (kb0.stay h).cell 2
  have fz03 : ∀ V, Ext W0 V → V.cell? ⟨w.heap.size, 3, none⟩ = some (.int .i64 i) := fun V h => (kb0.stay h).cell 3
  have fz04 : ∀ V, Ext W0 V → V.cell? ⟨w.heap.size, 4, none⟩ = some (.int .i64 m) := fun V h => (kb0.stay h).cell 4
  have fz05 : ∀ V, Ext W0 V → V.cell? ⟨w.heap.size, 5, none⟩ = some (.string d) := fun V h => (kb0.stay h).cell 5
  have kb1 : Blk W0 (w.heap.size + 1) 30 #[.int .i64 c2, .int .i64 s2, .int .i64 k2, .int .i64 i2, .int .i64 m2, .string d2] := by rw [hW0]; exact ((Blk.new' _ _ _ _ (by simp)).alloc _).alloc _
  have fz10 : ∀ V, Ext W0 V → V.cell? ⟨(w.heap.size + 1), 0, none⟩ = some (.int .i64 c2) := fun V h => (kb1.stay h).cell 0
  have fz11 : ∀ V, Ext W0 V → V.cell? ⟨(w.heap.size + 1), 1, none⟩ = some (.int .i64 s2) := fun V h => (kb1.stay h).cell 1
  have fz12 : ∀ V, Ext W0 V → V.cell? ⟨(w.heap.size + 1), 2, none⟩ = some (.int .i64 k2) := fun V h => (kb1.stay h).cell 2
  have fz13 : ∀ V, Ext W0 V → V.cell? ⟨(w.heap.size + 1), 3, none⟩ = some (.int .i64 i2) := fun V h => (kb1.stay h).cell 3
  have fz14 : ∀ V, Ext W0 V → V.cell? ⟨(w.heap.size + 1), 4, none⟩ = some (.int .i64 m2) := fun V h => (kb1.stay h).cell 4
  have fz15 : ∀ V, Ext W0 V → V.cell? ⟨(w.heap.size + 1), 5, none⟩ = some (.string d2) := fun V h => (kb1.stay h).cell 5
  have kb2 : Blk W0 (w.heap.size + 1 + 1) 39 #[.int .i64 ep1, .slice A1 n1 cap1] := by rw [hW0]; exact (Blk.new' _ _ _ _ (by simp)).alloc _
  have fz20 : ∀ V, Ext W0 V → V.cell? ⟨(w.heap.size + 1 + 1), 0, none⟩ = some (.int .i64 ep1) := fun V h => (kb2.stay h).cell 0
  have fz21 : ∀ V, Ext W0 V → V.cell? ⟨(w.heap.size + 1 + 1), 1, none⟩ = some (.slice A1 n1 cap1) := fun V h => (kb2.stay h).cell 1
  have kb3 : Blk W0 (w.heap.size + 1 + 1 + 1) 39 #[.int .i64 ep2, .slice A2 n2 cap2] := by rw [hW0]; exact Blk.new' _ _ _ _ (by simp)
  have fz30 : ∀ V, Ext W0 V → V.cell? ⟨(w.heap.size + 1 + 1 + 1), 0, none⟩ = some (.int .i64 ep2) := fun V h => (kb3.stay h).cell 0
  have fz31 : ∀ V, Ext W0 V → V.cell? ⟨(w.heap.size + 1 + 1 + 1), 1, none⟩ = some (.slice A2 n2 cap2) := fun V h => (kb3.stay h).cell 1
  have HW0 := Lib.hid hW0
  have HX0 := Lib.hid hx0
  have E0 : Hid (Ext W0 W0) := Ext.refl _
  have HT : Hid (∀ V, Ext W0 V → Calls Try.prog 29 #[] V fun e w' => e = .returned (.bool true) ∧ Ext V w') := fun V _ => told2 V
  have hdm : d.size ≤ maxLen := by unfold maxLen; omega
  have hdm2 : d2.size ≤ maxLen := by unfold maxLen; omega
  have CFa : Hid (∀ V, Ext W0 V → Calls Try.prog 28 #[.agg #[.int .i64 c, .int .i64 s, .int .i64 k, .int .i64 i, .int .i64 m, .string d]] V fun e w' => e = .returned (.bool true) ∧ Ext V w') := fun V _ => by have h := few_any c s k i m d V hdm; rw [decide_eq_true hd] at h; exact h
  have CFb : Hid (∀ V, Ext W0 V → Calls Try.prog 28 #[.agg #[.int .i64 c2, .int .i64 s2, .int .i64 k2, .int .i64 i2, .int .i64 m2, .string d2]] V fun e w' => e = .returned (.bool true) ∧ Ext V w') := fun V _ => by have h := few_any c2 s2 k2 i2 m2 d2 V hdm2; rw [decide_eq_true hd2] at h; exact h
  obtain ⟨qa, qam, qae⟩ := rq_of hm
  obtain ⟨XA, hXA⟩ : ∃ L, L = putB qa := ⟨_, rfl⟩
  obtain ⟨x1, hx1⟩ : ∃ n, n = (putB qa).length := ⟨_, rfl⟩
  have CPa : Hid (∀ V, Ext W0 V → Calls Try.prog 31 #[.agg #[.int .i64 c, .int .i64 s, .int .i64 k, .int .i64 i, .int .i64 m, .string d]] V fun e w' => ∃ A' c', e = .returned (.tuple #[.slice A' x1 c', .int .i64 0]) ∧ Sl Go.Proofs.Ytdbnaflaobncgaa.u8 w' A' XA ∧ Ext V w') := fun V hV => by
    rw [qae, hx1, hXA]; exact putReq_yes qa V qam
  obtain ⟨qb, qbm, qbe⟩ := rq_of hm2
  obtain ⟨XB, hXB⟩ : ∃ L, L = putB qb := ⟨_, rfl⟩
  obtain ⟨x2, hx2⟩ : ∃ n, n = (putB qb).length := ⟨_, rfl⟩
  have CPb : Hid (∀ V, Ext W0 V → Calls Try.prog 31 #[.agg #[.int .i64 c2, .int .i64 s2, .int .i64 k2, .int .i64 i2, .int .i64 m2, .string d2]] V fun e w' => ∃ A' c', e = .returned (.tuple #[.slice A' x2 c', .int .i64 0]) ∧ Sl Go.Proofs.Ytdbnaflaobncgaa.u8 w' A' XB ∧ Ext V w') := fun V hV => by
    rw [qbe, hx2, hXB]; exact putReq_yes qb V qbm
  obtain ⟨sa, hsa⟩ : ∃ z, z = str XA := ⟨_, rfl⟩
  have HVA : Hid (∀ V A' c', Sl Go.Proofs.Ytdbnaflaobncgaa.u8 V A' XA → ∀ W, Ext V W → (convert 54 9 (.slice A' x1 c')).run Try.prog W = .ok (.string sa) W) := fun V A' c' h W hW => by
    have := run_str (P := Try.prog) (w := W) 54 9 5 A' XA c' Try.underlying54 Try.underlying5 Try.underlying9 (h.stay hW)
    rw [hx1, hsa, ← hXA]
    exact this
  obtain ⟨sb, hsb⟩ : ∃ z, z = str XB := ⟨_, rfl⟩
  have HVB : Hid (∀ V A' c', Sl Go.Proofs.Ytdbnaflaobncgaa.u8 V A' XB → ∀ W, Ext V W → (convert 54 9 (.slice A' x2 c')).run Try.prog W = .ok (.string sb) W) := fun V A' c' h W hW => by
    have := run_str (P := Try.prog) (w := W) 54 9 5 A' XB c' Try.underlying54 Try.underlying5 Try.underlying9 (h.stay hW)
    rw [hx2, hsb, ← hXB]
    exact this
  have HNEQ : Hid (c = c2 → s = s2 → k = k2 → i = i2 → m = m2 → ¬ d.toList = d2.toList) := fun q1 q2 q3 q4 q5 q6 => hne ⟨q1, q2, q3, q4, q5, Go.WideShapes.bytes_inj (by rw [← ByteArray.toList_eq, ← ByteArray.toList_eq]; exact q6)⟩
  have hsn : ¬ sa.toList = sb.toList := fun e => by
    have e1 : sa = sb := Go.WideShapes.bytes_inj (by rw [← ByteArray.toList_eq, ← ByteArray.toList_eq]; exact e)
    have e2 : XA = XB := by rw [hsa, hsb] at e1; exact str_inj e1
    rw [hXA, hXB] at e2
    have e3 := (putB_inj (r := []) (r' := []) qam qbm (by rw [e2])).1
    subst e3
    have e4 := qae.trans qbe.symm
    injection e4 with e4
    have g : ∀ j : Nat, (#[Value.int .i64 c, .int .i64 s, .int .i64 k, .int .i64 i, .int .i64 m, .string d] : Array Value)[j]? = (#[Value.int .i64 c2, .int .i64 s2, .int .i64 k2, .int .i64 i2, .int .i64 m2, .string d2] : Array Value)[j]? := fun j => by rw [e4]
    have g0 := g 0
    have g1 := g 1
    have g2 := g 2
    have g3 := g 3
    have g4 := g 4
    have g5 := g 5
    simp at g0 g1 g2 g3 g4 g5
    exact hne ⟨g0, g1, g2, g3, g4, g5⟩
  have hsn2 : ¬ sb.toList = sa.toList := fun e => hsn e.symm
  have CPc : Hid (∀ V, Ext W0 V → Calls Try.prog 38 #[.agg #[.int .i64 ep1, .slice A1 n1 cap1]] V fun e w' => e = .returned (.tuple #[.slice none 0 0, .int .i64 1]) ∧ Ext V w') := fun V hV => by
    rw [hn1]; exact putChain_no ep1 A1 cap1 l1 V (by omega) hc1 (hs1.stay (Ext.trans hx0 hV)) hmc
  have CPd : Hid (∀ V, Ext W0 V → Calls Try.prog 38 #[.agg #[.int .i64 ep2, .slice A2 n2 cap2]] V fun e w' => ∃ A' n' c' f', e = .returned (.tuple #[.slice A' n' c', .int .i64 f']) ∧ Ext V w') := fun V hV => by
    cases hmd : mayChainB ep2 l2 with
    | false =>
      rw [hn2]
      exact (putChain_no ep2 A2 cap2 l2 V (by omega) hc2 (hs2.stay (Ext.trans hx0 hV)) hmd).mono fun e w' ⟨h1, h2⟩ => ⟨_, _, _, _, h1, h2⟩
    | true =>
      obtain ⟨e8, ns8, he8, hl8⟩ := mayChainB_ints hmd
      rw [hn2, he8, hl8, ints_len]
      exact (putChain_yes e8 A2 cap2 ns8 V (by rw [hl8, ints_len] at hc2; exact hc2) (by rw [← hl8]; exact hs2.stay (Ext.trans hx0 hV)) (by rw [← he8, ← hl8]; exact hmd)).mono fun e w' ⟨_, _, h1, _, h2⟩ => ⟨_, _, _, _, h1, h2⟩
  have b1 : ¬ (8 : Int) < (n1 : Int) := by omega
  have b2 : ¬ (8 : Int) < (n2 : Int) := by omega
  clear kb0 kb1 kb2 kb3 hx0 hW0 hdm hd hdm2 hd2 hm hm2 hne hn1 hn2 hc1 hc2 hs1 hs2 hmc qae qam hx1 hXA qbe qbm hx2 hXB hsa hsb
  go_enter Try.func11, Try.ntmps11
  go_wp2_with fail
  rw [← HW0.out]
  have e0 := E0.out
  have W0z00 := fz00 W0 E0.out; have W0z01 := fz01 W0 E0.out; have W0z02 := fz02 W0 E0.out; have W0z03 := fz03 W0 E0.out; have W0z04 := fz04 W0 E0.out; have W0z05 := fz05 W0 E0.out; have W0z10 := fz10 W0 E0.out; have W0z11 := fz11 W0 E0.out; have W0z12 := fz12 W0 E0.out; have W0z13 := fz13 W0 E0.out; have W0z14 := fz14 W0 E0.out; have W0z15 := fz15 W0 E0.out; have W0z20 := fz20 W0 E0.out; have W0z21 := fz21 W0 E0.out; have W0z30 := fz30 W0 E0.out; have W0z31 := fz31 W0 E0.out
  go_wp2_with (first
    | (go_at_call 28; (with_reducible refine (CFa.out _ e0).mono ?_); rintro e w1 ⟨rfl, hx⟩; have Ew1 : Ext W0 w1 := Ext.trans e0 hx; have w1z00 := fz00 w1 Ew1; have w1z01 := fz01 w1 Ew1; have w1z02 := fz02 w1 Ew1; have w1z03 := fz03 w1 Ew1; have w1z04 := fz04 w1 Ew1; have w1z05 := fz05 w1 Ew1; have w1z10 := fz10 w1 Ew1; have w1z11 := fz11 w1 Ew1; have w1z12 := fz12 w1 Ew1; have w1z13 := fz13 w1 Ew1; have w1z14 := fz14 w1 Ew1; have w1z15 := fz15 w1 Ew1; have w1z20 := fz20 w1 Ew1; have w1z21 := fz21 w1 Ew1; have w1z30 := fz30 w1 Ew1; have w1z31 := fz31 w1 Ew1; clear hx)
    | (go_at_call 28; (with_reducible refine (CFb.out _ Ew1).mono ?_); rintro e w2 ⟨rfl, hx⟩; have Ew2 : Ext W0 w2 := Ext.trans Ew1 hx; have w2z00 := fz00 w2 Ew2; have w2z01 := fz01 w2 Ew2; have w2z02 := fz02 w2 Ew2; have w2z03 := fz03 w2 Ew2; have w2z04 := fz04 w2 Ew2; have w2z05 := fz05 w2 Ew2; have w2z10 := fz10 w2 Ew2; have w2z11 := fz11 w2 Ew2; have w2z12 := fz12 w2 Ew2; have w2z13 := fz13 w2 Ew2; have w2z14 := fz14 w2 Ew2; have w2z15 := fz15 w2 Ew2; have w2z20 := fz20 w2 Ew2; have w2z21 := fz21 w2 Ew2; have w2z30 := fz30 w2 Ew2; have w2z31 := fz31 w2 Ew2; clear hx)
    | (go_at_call 31; (with_reducible refine (CPa.out _ Ew2).mono ?_); rintro e w3 ⟨Aa, ca, rfl, hsx, hx⟩; have Ew3 : Ext W0 w3 := Ext.trans Ew2 hx; have w3z00 := fz00 w3 Ew3; have w3z01 := fz01 w3 Ew3; have w3z02 := fz02 w3 Ew3; have w3z03 := fz03 w3 Ew3; have w3z04 := fz04 w3 Ew3; have w3z05 := fz05 w3 Ew3; have w3z10 := fz10 w3 Ew3; have w3z11 := fz11 w3 Ew3; have w3z12 := fz12 w3 Ew3; have w3z13 := fz13 w3 Ew3; have w3z14 := fz14 w3 Ew3; have w3z15 := fz15 w3 Ew3; have w3z20 := fz20 w3 Ew3; have w3z21 := fz21 w3 Ew3; have w3z30 := fz30 w3 Ew3; have w3z31 := fz31 w3 Ew3; have HSA := Lib.hid hsx; clear hsx; clear hx)
    | (go_at_call 31; (with_reducible refine (CPb.out _ Ew3).mono ?_); rintro e w4 ⟨Ab, cb, rfl, hsx, hx⟩; have Ew4 : Ext W0 w4 := Ext.trans Ew3 hx; have w4z00 := fz00 w4 Ew4; have w4z01 := fz01 w4 Ew4; have w4z02 := fz02 w4 Ew4; have w4z03 := fz03 w4 Ew4; have w4z04 := fz04 w4 Ew4; have w4z05 := fz05 w4 Ew4; have w4z10 := fz10 w4 Ew4; have w4z11 := fz11 w4 Ew4; have w4z12 := fz12 w4 Ew4; have w4z13 := fz13 w4 Ew4; have w4z14 := fz14 w4 Ew4; have w4z15 := fz15 w4 Ew4; have w4z20 := fz20 w4 Ew4; have w4z21 := fz21 w4 Ew4; have w4z30 := fz30 w4 Ew4; have w4z31 := fz31 w4 Ew4; have HSB := Lib.hid hsx; have HSA2 : Hid (Sl Go.Proofs.Ytdbnaflaobncgaa.u8 w4 Aa XA) := HSA.out.stay hx; clear hsx; clear hx))
  have EW4 := Lib.hid Ew4
  clear W0z00 W0z01 W0z02 W0z03 W0z04 W0z05 W0z10 W0z11 W0z12 W0z13 W0z14 W0z15 W0z20 W0z21 W0z30 W0z31 w1z00 w1z01 w1z02 w1z03 w1z04 w1z05 w1z10 w1z11 w1z12 w1z13 w1z14 w1z15 w1z20 w1z21 w1z30 w1z31 w2z00 w2z01 w2z02 w2z03 w2z04 w2z05 w2z10 w2z11 w2z12 w2z13 w2z14 w2z15 w2z20 w2z21 w2z30 w2z31 w3z00 w3z01 w3z02 w3z03 w3z04 w3z05 w3z10 w3z11 w3z12 w3z13 w3z14 w3z15 w3z20 w3z21 w3z30 w3z31 w4z00 w4z01 w4z02 w4z03 w4z04 w4z05 w4z10 w4z11 w4z12 w4z13 w4z14 w4z15 w4z20 w4z21 w4z30 w4z31 Ew1 Ew2 Ew3 Ew4
  have hcva : ∀ W, Ext w4 W → (convert 54 9 (.slice Aa x1 ca)).run Try.prog W = .ok (.string sa) W := HVA.out _ _ _ HSA2.out
  have hcvb : ∀ W, Ext w4 W → (convert 54 9 (.slice Ab x2 cb)).run Try.prog W = .ok (.string sb) W := HVB.out _ _ _ HSB.out
  have X44 : Hid (Ext w4 w4) := Ext.refl _
  have fy00 : ∀ V, Ext w4 V → V.cell? ⟨w.heap.size, 0, none⟩ = some (.int .i64 c) := fun V h => fz00 V (Ext.trans EW4.out h)
  have fy01 : ∀ V, Ext w4 V → V.cell? ⟨w.heap.size, 1, none⟩ = some (.int .i64 s) := fun V h => fz01 V (Ext.trans EW4.out h)
  have fy02 : ∀ V, Ext w4 V → V.cell? ⟨w.heap.size, 2, none⟩ = some (.int .i64 k) := fun V h => fz02 V (Ext.trans EW4.out h)
  have fy03 : ∀ V, Ext w4 V → V.cell? ⟨w.heap.size, 3, none⟩ = some (.int .i64 i) := fun V h => fz03 V (Ext.trans EW4.out h)
  have fy04 : ∀ V, Ext w4 V → V.cell? ⟨w.heap.size, 4, none⟩ = some (.int .i64 m) := fun V h => fz04 V (Ext.trans EW4.out h)
  have fy05 : ∀ V, Ext w4 V → V.cell? ⟨w.heap.size, 5, none⟩ = some (.string d) := fun V h => fz05 V (Ext.trans EW4.out h)
  have fy10 : ∀ V, Ext w4 V → V.cell? ⟨(w.heap.size + 1), 0, none⟩ = some (.int .i64 c2) := fun V h => fz10 V (Ext.trans EW4.out h)
  have fy11 : ∀ V, Ext w4 V → V.cell? ⟨(w.heap.size + 1), 1, none⟩ = some (.int .i64 s2) := fun V h => fz11 V (Ext.trans EW4.out h)
  have fy12 : ∀ V, Ext w4 V → V.cell? ⟨(w.heap.size + 1), 2, none⟩ = some (.int .i64 k2) := fun V h => fz12 V (Ext.trans EW4.out h)
  have fy13 : ∀ V, Ext w4 V → V.cell? ⟨(w.heap.size + 1), 3, none⟩ = some (.int .i64 i2) := fun V h => fz13 V (Ext.trans EW4.out h)
  have fy14 : ∀ V, Ext w4 V → V.cell? ⟨(w.heap.size + 1), 4, none⟩ = some (.int .i64 m2) := fun V h => fz14 V (Ext.trans EW4.out h)
  have fy15 : ∀ V, Ext w4 V → V.cell? ⟨(w.heap.size + 1), 5, none⟩ = some (.string d2) := fun V h => fz15 V (Ext.trans EW4.out h)
  refine ext_begin (by kernel_rfl) ?_
  have X44d := Lib.hid (Ext.drewR X44.out)
  refine ext_take (i := 0) (v := ?_) rfl (by kernel_rfl) (by kernel_rfl) (by kernel_rfl) (fun _ _ _ h => h) (by rfl) ?_ ?_
  rotate_left
  · intro W hW; have hW0 := Ext.trans X44d.out hW; clear hW; go_simp <;> with_reducible rfl
  try simp only [Act.put, List.setIfInBounds_toArray, List.set_cons_zero, List.set_cons_succ]
  refine ext_take (i := 1) (v := ?_) rfl (by kernel_rfl) (by kernel_rfl) (by kernel_rfl) (fun _ _ _ h => h) (by rfl) ?_ ?_
  rotate_left
  · intro W hW; have hW0 := Ext.trans X44d.out hW; clear hW; go_simp <;> with_reducible rfl
  try simp only [Act.put, List.setIfInBounds_toArray, List.set_cons_zero, List.set_cons_succ]
  refine ext_take (i := 2) (v := ?_) rfl (by kernel_rfl) (by kernel_rfl) (by kernel_rfl) (fun _ _ _ h => h) (by rfl) ?_ ?_
  rotate_left
  · intro W hW; have hW0 := Ext.trans X44d.out hW; clear hW; go_simp <;> with_reducible rfl
  try simp only [Act.put, List.setIfInBounds_toArray, List.set_cons_zero, List.set_cons_succ]
  refine ext_take (i := 3) (v := ?_) rfl (by kernel_rfl) (by kernel_rfl) (by kernel_rfl) (fun _ _ _ h => h) (by rfl) ?_ ?_
  rotate_left
  · intro W hW; have hW0 := Ext.trans X44d.out hW; clear hW; go_simp <;> with_reducible rfl
  try simp only [Act.put, List.setIfInBounds_toArray, List.set_cons_zero, List.set_cons_succ]
  refine ext_take (i := 4) (v := ?_) rfl (by kernel_rfl) (by kernel_rfl) (by kernel_rfl) (fun _ _ _ h => h) (by rfl) ?_ ?_
  rotate_left
  · intro W hW; have hW0 := Ext.trans X44d.out hW; clear hW; go_simp <;> with_reducible rfl
  try simp only [Act.put, List.setIfInBounds_toArray, List.set_cons_zero, List.set_cons_succ]
  refine ext_take (i := 5) (v := ?_) rfl (by kernel_rfl) (by kernel_rfl) (by kernel_rfl) (fun _ _ _ h => h) (by rfl) ?_ ?_
  rotate_left
  · intro W hW; have hW0 := Ext.trans X44d.out hW; clear hW; go_simp <;> with_reducible rfl
  try simp only [Act.put, List.setIfInBounds_toArray, List.set_cons_zero, List.set_cons_succ]
  refine ext_take (i := 6) (v := ?_) rfl (by kernel_rfl) (by kernel_rfl) (by kernel_rfl) (fun _ _ _ h => h) (by rfl) ?_ ?_
  rotate_left
  · intro W hW; have hW0 := Ext.trans X44d.out hW; clear hW; go_simp <;> with_reducible rfl
  try simp only [Act.put, List.setIfInBounds_toArray, List.set_cons_zero, List.set_cons_succ]
  refine ext_take (i := 7) (v := ?_) rfl (by kernel_rfl) (by kernel_rfl) (by kernel_rfl) (fun _ _ _ h => h) (by rfl) ?_ ?_
  rotate_left
  · intro W hW; have hW0 := Ext.trans X44d.out hW; clear hW; go_simp <;> with_reducible rfl
  try simp only [Act.put, List.setIfInBounds_toArray, List.set_cons_zero, List.set_cons_succ]
  refine ext_take (i := 8) (v := .string sa) rfl (by kernel_rfl) (by kernel_rfl) (by kernel_rfl) (fun _ _ _ h => h) (by rfl) ?_ ?_
  · intro W hW; have hW0 := Ext.trans X44d.out hW; clear hW; have hh := hcva W hW0; go_simp; all_goals (first | exact hh | (rw [hh]; done) | (rw [hh]; rfl))
  try simp only [Act.put, List.setIfInBounds_toArray, List.set_cons_zero, List.set_cons_succ]
  refine ext_take (i := 9) (v := ?_) rfl (by kernel_rfl) (by kernel_rfl) (by kernel_rfl) (fun _ _ _ h => h) (by rfl) ?_ ?_
  rotate_left
  · intro W hW; have hW0 := Ext.trans X44d.out hW; clear hW; go_simp <;> with_reducible rfl
  try simp only [Act.put, List.setIfInBounds_toArray, List.set_cons_zero, List.set_cons_succ]
  refine ext_take (i := 10) (v := .string sb) rfl (by kernel_rfl) (by kernel_rfl) (by kernel_rfl) (fun _ _ _ h => h) (by rfl) ?_ ?_
  · intro W hW; have hW0 := Ext.trans X44d.out hW; clear hW; have hh := hcvb W hW0; go_simp; all_goals (first | exact hh | (rw [hh]; done) | (rw [hh]; rfl))
  try simp only [Act.put, List.setIfInBounds_toArray, List.set_cons_zero, List.set_cons_succ]
  refine ext_take (i := 11) (v := .bool false) rfl (by kernel_rfl) (by kernel_rfl) (by kernel_rfl) (fun _ _ _ h => h) (by rfl) ?_ ?_
  · intro W hW; have hW0 := Ext.trans X44d.out hW; clear hW; go_simp; all_goals (first | done | (simp [hsn]; done))
  try simp only [Act.put, List.setIfInBounds_toArray, List.set_cons_zero, List.set_cons_succ]
  refine ext_take (i := 12) (v := ?_) rfl (by kernel_rfl) (by kernel_rfl) (by kernel_rfl) (fun _ _ _ h => h) (by rfl) ?_ ?_
  rotate_left
  · intro W hW; have hW0 := Ext.trans X44d.out hW; clear hW; go_simp <;> with_reducible rfl
  try simp only [Act.put, List.setIfInBounds_toArray, List.set_cons_zero, List.set_cons_succ]
  refine ext_take (i := 13) (v := ?_) rfl (by kernel_rfl) (by kernel_rfl) (by kernel_rfl) (fun _ _ _ h => h) (by rfl) ?_ ?_
  rotate_left
  · intro W hW; have hW0 := Ext.trans X44d.out hW; clear hW; go_simp <;> with_reducible rfl
  try simp only [Act.put, List.setIfInBounds_toArray, List.set_cons_zero, List.set_cons_succ]
  refine ext_take (i := 14) (v := .bool false) rfl (by kernel_rfl) (by kernel_rfl) (by kernel_rfl) (fun _ _ _ h => h) (by rfl) ?_ ?_
  · intro W hW; have hW0 := Ext.trans X44d.out hW; clear hW; go_simp; all_goals (first | done | exact HNEQ.out)
  try simp only [Act.put, List.setIfInBounds_toArray, List.set_cons_zero, List.set_cons_succ]
  refine ext_take (i := 15) (v := ?_) rfl (by kernel_rfl) (by kernel_rfl) (by kernel_rfl) (fun _ _ _ h => h) (by rfl) ?_ ?_
  rotate_left
  · intro W hW; have hW0 := Ext.trans X44d.out hW; clear hW; go_simp <;> with_reducible rfl
  try simp only [Act.put, List.setIfInBounds_toArray, List.set_cons_zero, List.set_cons_succ]
  refine ext_take (i := 16) (v := ?_) rfl (by kernel_rfl) (by kernel_rfl) (by kernel_rfl) (fun _ _ _ h => h) (by rfl) ?_ ?_
  rotate_left
  · intro W hW; have hW0 := Ext.trans X44d.out hW; clear hW; go_simp <;> with_reducible rfl
  try simp only [Act.put, List.setIfInBounds_toArray, List.set_cons_zero, List.set_cons_succ]
  refine wpAnyH_done (by kernel_rfl) ?_ _
  have EX : Hid (Ext W0 w4.drew) := Ext.trans EW4.out X44d.out
  clear X44d hcva hcvb fy00 fy01 fy02 fy03 fy04 fy05 fy10 fy11 fy12 fy13 fy14 fy15
  have ex := EX.out
  have wd20 := fz20 _ ex
  have wd21 := fz21 _ ex
  have wd30 := fz30 _ ex
  have wd31 := fz31 _ ex
  go_wp2_with (first
    | (go_at_call 38; (with_reducible refine (CPc.out _ ex).mono ?_); rintro e w5 ⟨rfl, hx⟩; have Ew5 : Ext W0 w5 := Ext.trans ex hx; have w5z20 := fz20 w5 Ew5; have w5z21 := fz21 w5 Ew5; have w5z30 := fz30 w5 Ew5; have w5z31 := fz31 w5 Ew5; clear hx)
    | (go_at_call 38; (with_reducible refine (CPd.out _ Ew5).mono ?_); rintro e w6 ⟨Ad, nd, cd, fd, rfl, hx⟩; have Ew6 : Ext W0 w6 := Ext.trans Ew5 hx; have w6z20 := fz20 w6 Ew6; have w6z21 := fz21 w6 Ew6; have w6z30 := fz30 w6 Ew6; have w6z31 := fz31 w6 Ew6; clear hx)
    | (go_at_call 29; (with_reducible refine (HT.out _ Ew6).mono ?_); rintro e w7 ⟨rfl, hx⟩; have Ew7 : Ext W0 w7 := Ext.trans Ew6 hx; clear hx))
  try go_ret
  exact hD.out _ _ ⟨rfl, Ext.trans HX0.out Ew7⟩

set_option maxRecDepth 8000 in
set_option maxHeartbeats 16000000 in
theorem apart_3_1 (c s k i m : Int) (d : ByteArray) (c2 s2 k2 i2 m2 : Int) (d2 : ByteArray) (ep1 : Int) (A1 : Option Addr) (cap1 n1 : Nat) (ep2 : Int) (A2 : Option Addr) (cap2 n2 : Nat) (w : World) (hd : d.size ≤ 300) (hd2 : d2.size ≤ 300) (hm : mayReqB c s k i m d.size = true) (hm2 : mayReqB c2 s2 k2 i2 m2 d2.size = true) (hne : ¬ (c = c2 ∧ s = s2 ∧ k = k2 ∧ i = i2 ∧ m = m2 ∧ d = d2)) (l1 l2 : List Int) (hn1 : n1 = l1.length) (hn2 : n2 = l2.length) (h1 : n1 ≤ 8) (h2 : n2 ≤ 8) (hc1 : l1.length ≤ cap1) (hc2 : l2.length ≤ cap2) (hs1 : Sl i64 w A1 l1) (hs2 : Sl i64 w A2 l2) (hmc : mayChainB ep1 l1 = true) (hmd : mayChainB ep2 l2 = false) :
    Calls Try.prog 11 #[.agg #[.int .i64 c, .int .i64 s, .int .i64 k, .int .i64 i, .int .i64 m, .string d], .agg #[.int .i64 c2, .int .i64 s2, .int .i64 k2, .int .i64 i2, .int .i64 m2, .string d2], .agg #[.int .i64 ep1, .slice A1 n1 cap1], .agg #[.int .i64 ep2, .slice A2 n2 cap2]] w fun e w' => e = .returned (.bool true) ∧ Below w.heap.size w w' := by
  refine hide_post fun D hD => ?_
  obtain ⟨W0, hW0⟩ : ∃ W0, W0 = ((((w.alloc (.cells #[.int .i64 c, .int .i64 s, .int .i64 k, .int .i64 i, .int .i64 m, .string d] 30)).alloc (.cells #[.int .i64 c2, .int .i64 s2, .int .i64 k2, .int .i64 i2, .int .i64 m2, .string d2] 30)).alloc (.cells #[.int .i64 ep1, .slice A1 n1 cap1] 39)).alloc (.cells #[.int .i64 ep2, .slice A2 n2 cap2] 39)) := ⟨_, rfl⟩
  have hx0 : Ext w W0 := by rw [hW0]; exact Ext.trans (Ext.trans (Ext.trans (Ext.alloc _ _) (Ext.alloc _ _)) (Ext.alloc _ _)) (Ext.alloc _ _)
  have kb0 : Blk W0 w.heap.size 30 #[.int .i64 c, .int .i64 s, .int .i64 k, .int .i64 i, .int .i64 m, .string d] := by rw [hW0]; exact (((Blk.new _ _ _).alloc _).alloc _).alloc _
  have fz00 : ∀ V, Ext W0 V → V.cell? ⟨w.heap.size, 0, none⟩ = some (.int .i64 c) := fun V h => (kb0.stay h).cell 0
  have fz01 : ∀ V, Ext W0 V → V.cell? ⟨w.heap.size, 1, none⟩ = some (.int .i64 s) := fun V h => (kb0.stay h).cell 1
  have fz02 : ∀ V, Ext W0 V → V.cell? ⟨w.heap.size, 2, none⟩ = some (.int .i64 k) := fun V h => (kb0.stay h).cell 2
  have fz03 : ∀ V, Ext W0 V → V.cell? ⟨w.heap.size, 3, none⟩ = some (.int .i64 i) := fun V h => (kb0.stay h).cell 3
  have fz04 : ∀ V, Ext W0 V → V.cell? ⟨w.heap.size, 4, none⟩ = some (.int .i64 m) := fun V h => (kb0.stay h).cell 4
  have fz05 : ∀ V, Ext W0 V → V.cell? ⟨w.heap.size, 5, none⟩ = some (.string d) := fun V h => (kb0.stay h).cell 5
  have kb1 : Blk W0 (w.heap.size + 1) 30 #[.int .i64 c2, .int .i64 s2, .int .i64 k2, .int .i64 i2, .int .i64 m2, .string d2] := by rw [hW0]; exact ((Blk.new' _ _ _ _ (by simp)).alloc _).alloc _
  have fz10 : ∀ V, Ext W0 V → V.cell? ⟨(w.heap.size + 1), 0, none⟩ = some (.int .i64 c2) := fun V h => (kb1.stay h).cell 0
  have fz11 : ∀ V, Ext W0 V → V.cell? ⟨(w.heap.size + 1), 1, none⟩ = some (.int .i64 s2) := fun V h => (kb1.stay h).cell 1
  have fz12 : ∀ V, Ext W0 V → V.cell? ⟨(w.heap.size + 1), 2, none⟩ = some (.int .i64 k2) := fun V h => (kb1.stay h).cell 2
  have fz13 : ∀ V, Ext W0 V → V.cell? ⟨(w.heap.size + 1), 3, none⟩ = some (.int .i64 i2) := fun V h => (kb1.stay h).cell 3
  have fz14 : ∀ V, Ext W0 V → V.cell? ⟨(w.heap.size + 1), 4, none⟩ = some (.int .i64 m2) := fun V h => (kb1.stay h).cell 4
  have fz15 : ∀ V, Ext W0 V → V.cell? ⟨(w.heap.size + 1), 5, none⟩ = some (.string d2) := fun V h => (kb1.stay h).cell 5
  have kb2 : Blk W0 (w.heap.size + 1 + 1) 39 #[.int .i64 ep1, .slice A1 n1 cap1] := by rw [hW0]; exact (Blk.new' _ _ _ _ (by simp)).alloc _
  have fz20 : ∀ V, Ext W0 V → V.cell? ⟨(w.heap.size + 1 + 1), 0, none⟩ = some (.int .i64 ep1) := fun V h => (kb2.stay h).cell 0
  have fz21 : ∀ V, Ext W0 V → V.cell? ⟨(w.heap.size + 1 + 1), 1, none⟩ = some (.slice A1 n1 cap1) := fun V h => (kb2.stay h).cell 1
  have kb3 : Blk W0 (w.heap.size + 1 + 1 + 1) 39 #[.int .i64 ep2, .slice A2 n2 cap2] := by rw [hW0]; exact Blk.new' _ _ _ _ (by simp)
  have fz30 : ∀ V, Ext W0 V → V.cell? ⟨(w.heap.size + 1 + 1 + 1), 0, none⟩ = some (.int .i64 ep2) := fun V h => (kb3.stay h).cell 0
  have fz31 : ∀ V, Ext W0 V → V.cell? ⟨(w.heap.size + 1 + 1 + 1), 1, none⟩ = some (.slice A2 n2 cap2) := fun V h => (kb3.stay h).cell 1
  have HW0 := Lib.hid hW0
  have HX0 := Lib.hid hx0
  have E0 : Hid (Ext W0 W0) := Ext.refl _
  have HT : Hid (∀ V, Ext W0 V → Calls Try.prog 29 #[] V fun e w' => e = .returned (.bool true) ∧ Ext V w') := fun V _ => told2 V
  have hdm : d.size ≤ maxLen := by unfold maxLen; omega
  have hdm2 : d2.size ≤ maxLen := by unfold maxLen; omega
  have CFa : Hid (∀ V, Ext W0 V → Calls Try.prog 28 #[.agg #[.int .i64 c, .int .i64 s, .int .i64 k, .int .i64 i, .int .i64 m, .string d]] V fun e w' => e = .returned (.bool true) ∧ Ext V w') := fun V _ => by have h := few_any c s k i m d V hdm; rw [decide_eq_true hd] at h; exact h
  have CFb : Hid (∀ V, Ext W0 V → Calls Try.prog 28 #[.agg #[.int .i64 c2, .int .i64 s2, .int .i64 k2, .int .i64 i2, .int .i64 m2, .string d2]] V fun e w' => e = .returned (.bool true) ∧ Ext V w') := fun V _ => by have h := few_any c2 s2 k2 i2 m2 d2 V hdm2; rw [decide_eq_true hd2] at h; exact h
  obtain ⟨qa, qam, qae⟩ := rq_of hm
  obtain ⟨XA, hXA⟩ : ∃ L, L = putB qa := ⟨_, rfl⟩
  obtain ⟨x1, hx1⟩ : ∃ n, n = (putB qa).length := ⟨_, rfl⟩
  have CPa : Hid (∀ V, Ext W0 V → Calls Try.prog 31 #[.agg #[.int .i64 c, .int .i64 s, .int .i64 k, .int .i64 i, .int .i64 m, .string d]] V fun e w' => ∃ A' c', e = .returned (.tuple #[.slice A' x1 c', .int .i64 0]) ∧ Sl Go.Proofs.Ytdbnaflaobncgaa.u8 w' A' XA ∧ Ext V w') := fun V hV => by
    rw [qae, hx1, hXA]; exact putReq_yes qa V qam
  obtain ⟨qb, qbm, qbe⟩ := rq_of hm2
  obtain ⟨XB, hXB⟩ : ∃ L, L = putB qb := ⟨_, rfl⟩
  obtain ⟨x2, hx2⟩ : ∃ n, n = (putB qb).length := ⟨_, rfl⟩
  have CPb : Hid (∀ V, Ext W0 V → Calls Try.prog 31 #[.agg #[.int .i64 c2, .int .i64 s2, .int .i64 k2, .int .i64 i2, .int .i64 m2, .string d2]] V fun e w' => ∃ A' c', e = .returned (.tuple #[.slice A' x2 c', .int .i64 0]) ∧ Sl Go.Proofs.Ytdbnaflaobncgaa.u8 w' A' XB ∧ Ext V w') := fun V hV => by
    rw [qbe, hx2, hXB]; exact putReq_yes qb V qbm
  obtain ⟨sa, hsa⟩ : ∃ z, z = str XA := ⟨_, rfl⟩
  have HVA : Hid (∀ V A' c', Sl Go.Proofs.Ytdbnaflaobncgaa.u8 V A' XA → ∀ W, Ext V W → (convert 54 9 (.slice A' x1 c')).run Try.prog W = .ok (.string sa) W) := fun V A' c' h W hW => by
    have := run_str (P := Try.prog) (w := W) 54 9 5 A' XA c' Try.underlying54 Try.underlying5 Try.underlying9 (h.stay hW)
    rw [hx1, hsa, ← hXA]
    exact this
  obtain ⟨sb, hsb⟩ : ∃ z, z = str XB := ⟨_, rfl⟩
  have HVB : Hid (∀ V A' c', Sl Go.Proofs.Ytdbnaflaobncgaa.u8 V A' XB → ∀ W, Ext V W → (convert 54 9 (.slice A' x2 c')).run Try.prog W = .ok (.string sb) W) := fun V A' c' h W hW => by
    have := run_str (P := Try.prog) (w := W) 54 9 5 A' XB c' Try.underlying54 Try.underlying5 Try.underlying9 (h.stay hW)
    rw [hx2, hsb, ← hXB]
    exact this
  have HNEQ : Hid (c = c2 → s = s2 → k = k2 → i = i2 → m = m2 → ¬ d.toList = d2.toList) := fun q1 q2 q3 q4 q5 q6 => hne ⟨q1, q2, q3, q4, q5, Go.WideShapes.bytes_inj (by rw [← ByteArray.toList_eq, ← ByteArray.toList_eq]; exact q6)⟩
  have hsn : ¬ sa.toList = sb.toList := fun e => by
    have e1 : sa = sb := Go.WideShapes.bytes_inj (by rw [← ByteArray.toList_eq, ← ByteArray.toList_eq]; exact e)
    have e2 : XA = XB := by rw [hsa, hsb] at e1; exact str_inj e1
    rw [hXA, hXB] at e2
    have e3 := (putB_inj (r := []) (r' := []) qam qbm (by rw [e2])).1
    subst e3
    have e4 := qae.trans qbe.symm
    injection e4 with e4
    have g : ∀ j : Nat, (#[Value.int .i64 c, .int .i64 s, .int .i64 k, .int .i64 i, .int .i64 m, .string d] : Array Value)[j]? = (#[Value.int .i64 c2, .int .i64 s2, .int .i64 k2, .int .i64 i2, .int .i64 m2, .string d2] : Array Value)[j]? := fun j => by rw [e4]
    have g0 := g 0
    have g1 := g 1
    have g2 := g 2
    have g3 := g 3
    have g4 := g 4
    have g5 := g 5
    simp at g0 g1 g2 g3 g4 g5
    exact hne ⟨g0, g1, g2, g3, g4, g5⟩
  have hsn2 : ¬ sb.toList = sa.toList := fun e => hsn e.symm
  obtain ⟨e7, ns7, he7, hl7⟩ := mayChainB_ints hmc
  obtain ⟨X7, hX7⟩ : ∃ L, L = putC e7 ns7 := ⟨_, rfl⟩
  obtain ⟨z7, hz7⟩ : ∃ n, n = (putC e7 ns7).length := ⟨_, rfl⟩
  have CPc : Hid (∀ V, Ext W0 V → Calls Try.prog 38 #[.agg #[.int .i64 ep1, .slice A1 n1 cap1]] V fun e w' => ∃ A' c', e = .returned (.tuple #[.slice A' z7 c', .int .i64 0]) ∧ Sl Go.Proofs.Ytdbnaflaobncgaa.u8 w' A' X7 ∧ Ext V w') := fun V hV => by
    have h := putChain_yes e7 A1 cap1 ns7 V (by rw [hl7, ints_len] at hc1; exact hc1) (by rw [← hl7]; exact hs1.stay (Ext.trans hx0 hV)) (by rw [← he7, ← hl7]; exact hmc)
    rw [he7, hn1, hl7, ints_len, hz7, hX7]
    exact h
  have CPd : Hid (∀ V, Ext W0 V → Calls Try.prog 38 #[.agg #[.int .i64 ep2, .slice A2 n2 cap2]] V fun e w' => e = .returned (.tuple #[.slice none 0 0, .int .i64 1]) ∧ Ext V w') := fun V hV => by
    rw [hn2]; exact putChain_no ep2 A2 cap2 l2 V (by omega) hc2 (hs2.stay (Ext.trans hx0 hV)) hmd
  have b1 : ¬ (8 : Int) < (n1 : Int) := by omega
  have b2 : ¬ (8 : Int) < (n2 : Int) := by omega
  clear kb0 kb1 kb2 kb3 hx0 hW0 hdm hd hdm2 hd2 hm hm2 hne hn1 hn2 hc1 hc2 hs1 hs2 hmc hmd qae qam hx1 hXA qbe qbm hx2 hXB hsa hsb he7 hl7 hX7 hz7
  go_enter Try.func11, Try.ntmps11
  go_wp2_with fail
  rw [← HW0.out]
  have e0 := E0.out
  have W0z00 := fz00 W0 E0.out; have W0z01 := fz01 W0 E0.out; have W0z02 := fz02 W0 E0.out; have W0z03 := fz03 W0 E0.out; have W0z04 := fz04 W0 E0.out; have W0z05 := fz05 W0 E0.out; have W0z10 := fz10 W0 E0.out; have W0z11 := fz11 W0 E0.out; have W0z12 := fz12 W0 E0.out; have W0z13 := fz13 W0 E0.out; have W0z14 := fz14 W0 E0.out; have W0z15 := fz15 W0 E0.out; have W0z20 := fz20 W0 E0.out; have W0z21 := fz21 W0 E0.out; have W0z30 := fz30 W0 E0.out; have W0z31 := fz31 W0 E0.out
  go_wp2_with (first
    | (go_at_call 28; (with_reducible refine (CFa.out _ e0).mono ?_); rintro e w1 ⟨rfl, hx⟩; have Ew1 : Ext W0 w1 := Ext.trans e0 hx; have w1z00 := fz00 w1 Ew1; have w1z01 := fz01 w1 Ew1; have w1z02 := fz02 w1 Ew1; have w1z03 := fz03 w1 Ew1; have w1z04 := fz04 w1 Ew1; have w1z05 := fz05 w1 Ew1; have w1z10 := fz10 w1 Ew1; have w1z11 := fz11 w1 Ew1; have w1z12 := fz12 w1 Ew1; have w1z13 := fz13 w1 Ew1; have w1z14 := fz14 w1 Ew1; have w1z15 := fz15 w1 Ew1; have w1z20 := fz20 w1 Ew1; have w1z21 := fz21 w1 Ew1; have w1z30 := fz30 w1 Ew1; have w1z31 := fz31 w1 Ew1; clear hx)
    | (go_at_call 28; (with_reducible refine (CFb.out _ Ew1).mono ?_); rintro e w2 ⟨rfl, hx⟩; have Ew2 : Ext W0 w2 := Ext.trans Ew1 hx; have w2z00 := fz00 w2 Ew2; have w2z01 := fz01 w2 Ew2; have w2z02 := fz02 w2 Ew2; have w2z03 := fz03 w2 Ew2; have w2z04 := fz04 w2 Ew2; have w2z05 := fz05 w2 Ew2; have w2z10 := fz10 w2 Ew2; have w2z11 := fz11 w2 Ew2; have w2z12 := fz12 w2 Ew2; have w2z13 := fz13 w2 Ew2; have w2z14 := fz14 w2 Ew2; have w2z15 := fz15 w2 Ew2; have w2z20 := fz20 w2 Ew2; have w2z21 := fz21 w2 Ew2; have w2z30 := fz30 w2 Ew2; have w2z31 := fz31 w2 Ew2; clear hx)
    | (go_at_call 31; (with_reducible refine (CPa.out _ Ew2).mono ?_); rintro e w3 ⟨Aa, ca, rfl, hsx, hx⟩; have Ew3 : Ext W0 w3 := Ext.trans Ew2 hx; have w3z00 := fz00 w3 Ew3; have w3z01 := fz01 w3 Ew3; have w3z02 := fz02 w3 Ew3; have w3z03 := fz03 w3 Ew3; have w3z04 := fz04 w3 Ew3; have w3z05 := fz05 w3 Ew3; have w3z10 := fz10 w3 Ew3; have w3z11 := fz11 w3 Ew3; have w3z12 := fz12 w3 Ew3; have w3z13 := fz13 w3 Ew3; have w3z14 := fz14 w3 Ew3; have w3z15 := fz15 w3 Ew3; have w3z20 := fz20 w3 Ew3; have w3z21 := fz21 w3 Ew3; have w3z30 := fz30 w3 Ew3; have w3z31 := fz31 w3 Ew3; have HSA := Lib.hid hsx; clear hsx; clear hx)
    | (go_at_call 31; (with_reducible refine (CPb.out _ Ew3).mono ?_); rintro e w4 ⟨Ab, cb, rfl, hsx, hx⟩; have Ew4 : Ext W0 w4 := Ext.trans Ew3 hx; have w4z00 := fz00 w4 Ew4; have w4z01 := fz01 w4 Ew4; have w4z02 := fz02 w4 Ew4; have w4z03 := fz03 w4 Ew4; have w4z04 := fz04 w4 Ew4; have w4z05 := fz05 w4 Ew4; have w4z10 := fz10 w4 Ew4; have w4z11 := fz11 w4 Ew4; have w4z12 := fz12 w4 Ew4; have w4z13 := fz13 w4 Ew4; have w4z14 := fz14 w4 Ew4; have w4z15 := fz15 w4 Ew4; have w4z20 := fz20 w4 Ew4; have w4z21 := fz21 w4 Ew4; have w4z30 := fz30 w4 Ew4; have w4z31 := fz31 w4 Ew4; have HSB := Lib.hid hsx; have HSA2 : Hid (Sl Go.Proofs.Ytdbnaflaobncgaa.u8 w4 Aa XA) := HSA.out.stay hx; clear hsx; clear hx))
  have EW4 := Lib.hid Ew4
  clear W0z00 W0z01 W0z02 W0z03 W0z04 W0z05 W0z10 W0z11 W0z12 W0z13 W0z14 W0z15 W0z20 W0z21 W0z30 W0z31 w1z00 w1z01 w1z02 w1z03 w1z04 w1z05 w1z10 w1z11 w1z12 w1z13 w1z14 w1z15 w1z20 w1z21 w1z30 w1z31 w2z00 w2z01 w2z02 w2z03 w2z04 w2z05 w2z10 w2z11 w2z12 w2z13 w2z14 w2z15 w2z20 w2z21 w2z30 w2z31 w3z00 w3z01 w3z02 w3z03 w3z04 w3z05 w3z10 w3z11 w3z12 w3z13 w3z14 w3z15 w3z20 w3z21 w3z30 w3z31 w4z00 w4z01 w4z02 w4z03 w4z04 w4z05 w4z10 w4z11 w4z12 w4z13 w4z14 w4z15 w4z20 w4z21 w4z30 w4z31 Ew1 Ew2 Ew3 Ew4
  have hcva : ∀ W, Ext w4 W → (convert 54 9 (.slice Aa x1 ca)).run Try.prog W = .ok (.string sa) W := HVA.out _ _ _ HSA2.out
  have hcvb : ∀ W, Ext w4 W → (convert 54 9 (.slice Ab x2 cb)).run Try.prog W = .ok (.string sb) W := HVB.out _ _ _ HSB.out
  have X44 : Hid (Ext w4 w4) := Ext.refl _
  have fy00 : ∀ V, Ext w4 V → V.cell? ⟨w.heap.size, 0, none⟩ = some (.int .i64 c) := fun V h => fz00 V (Ext.trans EW4.out h)
  have fy01 : ∀ V, Ext w4 V → V.cell? ⟨w.heap.size, 1, none⟩ = some (.int .i64 s) := fun V h => fz01 V (Ext.trans EW4.out h)
  have fy02 : ∀ V, Ext w4 V → V.cell? ⟨w.heap.size, 2, none⟩ = some (.int .i64 k) := fun V h => fz02 V (Ext.trans EW4.out h)
  have fy03 : ∀ V, Ext w4 V → V.cell? ⟨w.heap.size, 3, none⟩ = some (.int .i64 i) := fun V h => fz03 V (Ext.trans EW4.out h)
  have fy04 : ∀ V, Ext w4 V → V.cell? ⟨w.heap.size, 4, none⟩ = some (.int .i64 m) := fun V h => fz04 V (Ext.trans EW4.out h)
  have fy05 : ∀ V, Ext w4 V → V.cell? ⟨w.heap.size, 5, none⟩ = some (.string d) := fun V h => fz05 V (Ext.trans EW4.out h)
  have fy10 : ∀ V, Ext w4 V → V.cell? ⟨(w.heap.size + 1), 0, none⟩ = some (.int .i64 c2) := fun V h => fz10 V (Ext.trans EW4.out h)
  have fy11 : ∀ V, Ext w4 V → V.cell? ⟨(w.heap.size + 1), 1, none⟩ = some (.int .i64 s2) := fun V h => fz11 V (Ext.trans EW4.out h)
  have fy12 : ∀ V, Ext w4 V → V.cell? ⟨(w.heap.size + 1), 2, none⟩ = some (.int .i64 k2) := fun V h => fz12 V (Ext.trans EW4.out h)
  have fy13 : ∀ V, Ext w4 V → V.cell? ⟨(w.heap.size + 1), 3, none⟩ = some (.int .i64 i2) := fun V h => fz13 V (Ext.trans EW4.out h)
  have fy14 : ∀ V, Ext w4 V → V.cell? ⟨(w.heap.size + 1), 4, none⟩ = some (.int .i64 m2) := fun V h => fz14 V (Ext.trans EW4.out h)
  have fy15 : ∀ V, Ext w4 V → V.cell? ⟨(w.heap.size + 1), 5, none⟩ = some (.string d2) := fun V h => fz15 V (Ext.trans EW4.out h)
  refine ext_begin (by kernel_rfl) ?_
  have X44d := Lib.hid (Ext.drewR X44.out)
  refine ext_take (i := 0) (v := ?_) rfl (by kernel_rfl) (by kernel_rfl) (by kernel_rfl) (fun _ _ _ h => h) (by rfl) ?_ ?_
  rotate_left
  · intro W hW; have hW0 := Ext.trans X44d.out hW; clear hW; go_simp <;> with_reducible rfl
  try simp only [Act.put, List.setIfInBounds_toArray, List.set_cons_zero, List.set_cons_succ]
  refine ext_take (i := 1) (v := ?_) rfl (by kernel_rfl) (by kernel_rfl) (by kernel_rfl) (fun _ _ _ h => h) (by rfl) ?_ ?_
  rotate_left
  · intro W hW; have hW0 := Ext.trans X44d.out hW; clear hW; go_simp <;> with_reducible rfl
  try simp only [Act.put, List.setIfInBounds_toArray, List.set_cons_zero, List.set_cons_succ]
  refine ext_take (i := 2) (v := ?_) rfl (by kernel_rfl) (by kernel_rfl) (by kernel_rfl) (fun _ _ _ h => h) (by rfl) ?_ ?_
  rotate_left
  · intro W hW; have hW0 := Ext.trans X44d.out hW; clear hW; go_simp <;> with_reducible rfl
  try simp only [Act.put, List.setIfInBounds_toArray, List.set_cons_zero, List.set_cons_succ]
  refine ext_take (i := 3) (v := ?_) rfl (by kernel_rfl) (by kernel_rfl) (by kernel_rfl) (fun _ _ _ h => h) (by rfl) ?_ ?_
  rotate_left
  · intro W hW; have hW0 := Ext.trans X44d.out hW; clear hW; go_simp <;> with_reducible rfl
  try simp only [Act.put, List.setIfInBounds_toArray, List.set_cons_zero, List.set_cons_succ]
  refine ext_take (i := 4) (v := ?_) rfl (by kernel_rfl) (by kernel_rfl) (by kernel_rfl) (fun _ _ _ h => h) (by rfl) ?_ ?_
  rotate_left
  · intro W hW; have hW0 := Ext.trans X44d.out hW; clear hW; go_simp <;> with_reducible rfl
  try simp only [Act.put, List.setIfInBounds_toArray, List.set_cons_zero, List.set_cons_succ]
  refine ext_take (i := 5) (v := ?_) rfl (by kernel_rfl) (by kernel_rfl) (by kernel_rfl) (fun _ _ _ h => h) (by rfl) ?_ ?_
  rotate_left
  · intro W hW; have hW0 := Ext.trans X44d.out hW; clear hW; go_simp <;> with_reducible rfl
  try simp only [Act.put, List.setIfInBounds_toArray, List.set_cons_zero, List.set_cons_succ]
  refine ext_take (i := 6) (v := ?_) rfl (by kernel_rfl) (by kernel_rfl) (by kernel_rfl) (fun _ _ _ h => h) (by rfl) ?_ ?_
  rotate_left
  · intro W hW; have hW0 := Ext.trans X44d.out hW; clear hW; go_simp <;> with_reducible rfl
  try simp only [Act.put, List.setIfInBounds_toArray, List.set_cons_zero, List.set_cons_succ]
  refine ext_take (i := 7) (v := ?_) rfl (by kernel_rfl) (by kernel_rfl) (by kernel_rfl) (fun _ _ _ h => h) (by rfl) ?_ ?_
  rotate_left
  · intro W hW; have hW0 := Ext.trans X44d.out hW; clear hW; go_simp <;> with_reducible rfl
  try simp only [Act.put, List.setIfInBounds_toArray, List.set_cons_zero, List.set_cons_succ]
  refine ext_take (i := 8) (v := .string sa) rfl (by kernel_rfl) (by kernel_rfl) (by kernel_rfl) (fun _ _ _ h => h) (by rfl) ?_ ?_
  · intro W hW; have hW0 := Ext.trans X44d.out hW; clear hW; have hh := hcva W hW0; go_simp; all_goals (first | exact hh | (rw [hh]; done) | (rw [hh]; rfl))
  try simp only [Act.put, List.setIfInBounds_toArray, List.set_cons_zero, List.set_cons_succ]
  refine ext_take (i := 9) (v := ?_) rfl (by kernel_rfl) (by kernel_rfl) (by kernel_rfl) (fun _ _ _ h => h) (by rfl) ?_ ?_
  rotate_left
  · intro W hW; have hW0 := Ext.trans X44d.out hW; clear hW; go_simp <;> with_reducible rfl
  try simp only [Act.put, List.setIfInBounds_toArray, List.set_cons_zero, List.set_cons_succ]
  refine ext_take (i := 10) (v := .string sb) rfl (by kernel_rfl) (by kernel_rfl) (by kernel_rfl) (fun _ _ _ h => h) (by rfl) ?_ ?_
  · intro W hW; have hW0 := Ext.trans X44d.out hW; clear hW; have hh := hcvb W hW0; go_simp; all_goals (first | exact hh | (rw [hh]; done) | (rw [hh]; rfl))
  try simp only [Act.put, List.setIfInBounds_toArray, List.set_cons_zero, List.set_cons_succ]
  refine ext_take (i := 11) (v := .bool false) rfl (by kernel_rfl) (by kernel_rfl) (by kernel_rfl) (fun _ _ _ h => h) (by rfl) ?_ ?_
  · intro W hW; have hW0 := Ext.trans X44d.out hW; clear hW; go_simp; all_goals (first | done | (simp [hsn]; done))
  try simp only [Act.put, List.setIfInBounds_toArray, List.set_cons_zero, List.set_cons_succ]
  refine ext_take (i := 12) (v := ?_) rfl (by kernel_rfl) (by kernel_rfl) (by kernel_rfl) (fun _ _ _ h => h) (by rfl) ?_ ?_
  rotate_left
  · intro W hW; have hW0 := Ext.trans X44d.out hW; clear hW; go_simp <;> with_reducible rfl
  try simp only [Act.put, List.setIfInBounds_toArray, List.set_cons_zero, List.set_cons_succ]
  refine ext_take (i := 13) (v := ?_) rfl (by kernel_rfl) (by kernel_rfl) (by kernel_rfl) (fun _ _ _ h => h) (by rfl) ?_ ?_
  rotate_left
  · intro W hW; have hW0 := Ext.trans X44d.out hW; clear hW; go_simp <;> with_reducible rfl
  try simp only [Act.put, List.setIfInBounds_toArray, List.set_cons_zero, List.set_cons_succ]
  refine ext_take (i := 14) (v := .bool false) rfl (by kernel_rfl) (by kernel_rfl) (by kernel_rfl) (fun _ _ _ h => h) (by rfl) ?_ ?_
  · intro W hW; have hW0 := Ext.trans X44d.out hW; clear hW; go_simp; all_goals (first | done | exact HNEQ.out)
  try simp only [Act.put, List.setIfInBounds_toArray, List.set_cons_zero, List.set_cons_succ]
  refine ext_take (i := 15) (v := ?_) rfl (by kernel_rfl) (by kernel_rfl) (by kernel_rfl) (fun _ _ _ h => h) (by rfl) ?_ ?_
  rotate_left
  · intro W hW; have hW0 := Ext.trans X44d.out hW; clear hW; go_simp <;> with_reducible rfl
  try simp only [Act.put, List.setIfInBounds_toArray, List.set_cons_zero, List.set_cons_succ]
  refine ext_take (i := 16) (v := ?_) rfl (by kernel_rfl) (by kernel_rfl) (by kernel_rfl) (fun _ _ _ h => h) (by rfl) ?_ ?_
  rotate_left
  · intro W hW; have hW0 := Ext.trans X44d.out hW; clear hW; go_simp <;> with_reducible rfl
  try simp only [Act.put, List.setIfInBounds_toArray, List.set_cons_zero, List.set_cons_succ]
  refine wpAnyH_done (by kernel_rfl) ?_ _
  have EX : Hid (Ext W0 w4.drew) := Ext.trans EW4.out X44d.out
  clear X44d hcva hcvb fy00 fy01 fy02 fy03 fy04 fy05 fy10 fy11 fy12 fy13 fy14 fy15
  have ex := EX.out
  have wd20 := fz20 _ ex
  have wd21 := fz21 _ ex
  have wd30 := fz30 _ ex
  have wd31 := fz31 _ ex
  go_wp2_with (first
    | (go_at_call 38; (with_reducible refine (CPc.out _ ex).mono ?_); rintro e w5 ⟨Ac, cc, rfl, hsx, hx⟩; have Ew5 : Ext W0 w5 := Ext.trans ex hx; have w5z20 := fz20 w5 Ew5; have w5z21 := fz21 w5 Ew5; have w5z30 := fz30 w5 Ew5; have w5z31 := fz31 w5 Ew5; have HSc := Lib.hid hsx; clear hsx; clear hx)
    | (go_at_call 38; (with_reducible refine (CPd.out _ Ew5).mono ?_); rintro e w6 ⟨rfl, hx⟩; have Ew6 : Ext W0 w6 := Ext.trans Ew5 hx; have w6z20 := fz20 w6 Ew6; have w6z21 := fz21 w6 Ew6; have w6z30 := fz30 w6 Ew6; have w6z31 := fz31 w6 Ew6; clear hx)
    | (go_at_call 29; (with_reducible refine (HT.out _ Ew6).mono ?_); rintro e w7 ⟨rfl, hx⟩; have Ew7 : Ext W0 w7 := Ext.trans Ew6 hx; clear hx))
  try go_ret
  exact hD.out _ _ ⟨rfl, Ext.trans HX0.out Ew7⟩

set_option maxRecDepth 8000 in
set_option maxHeartbeats 16000000 in
theorem apart_3_2 (c s k i m : Int) (d : ByteArray) (c2 s2 k2 i2 m2 : Int) (d2 : ByteArray) (ep1 : Int) (A1 : Option Addr) (cap1 n1 : Nat) (ep2 : Int) (A2 : Option Addr) (cap2 n2 : Nat) (w : World) (hd : d.size ≤ 300) (hd2 : d2.size ≤ 300) (hm : mayReqB c s k i m d.size = true) (hm2 : mayReqB c2 s2 k2 i2 m2 d2.size = true) (hne : ¬ (c = c2 ∧ s = s2 ∧ k = k2 ∧ i = i2 ∧ m = m2 ∧ d = d2)) (l1 l2 : List Int) (hn1 : n1 = l1.length) (hn2 : n2 = l2.length) (h1 : n1 ≤ 8) (h2 : n2 ≤ 8) (hc1 : l1.length ≤ cap1) (hc2 : l2.length ≤ cap2) (hs1 : Sl i64 w A1 l1) (hs2 : Sl i64 w A2 l2) (hmc : mayChainB ep1 l1 = true) (hmd : mayChainB ep2 l2 = true) :
    Calls Try.prog 11 #[.agg #[.int .i64 c, .int .i64 s, .int .i64 k, .int .i64 i, .int .i64 m, .string d], .agg #[.int .i64 c2, .int .i64 s2, .int .i64 k2, .int .i64 i2, .int .i64 m2, .string d2], .agg #[.int .i64 ep1, .slice A1 n1 cap1], .agg #[.int .i64 ep2, .slice A2 n2 cap2]] w fun e w' => e = .returned (.bool true) ∧ Below w.heap.size w w' := by
  refine hide_post fun D hD => ?_
  obtain ⟨W0, hW0⟩ : ∃ W0, W0 = ((((w.alloc (.cells #[.int .i64 c, .int .i64 s, .int .i64 k, .int .i64 i, .int .i64 m, .string d] 30)).alloc (.cells #[.int .i64 c2, .int .i64 s2, .int .i64 k2, .int .i64 i2, .int .i64 m2, .string d2] 30)).alloc (.cells #[.int .i64 ep1, .slice A1 n1 cap1] 39)).alloc (.cells #[.int .i64 ep2, .slice A2 n2 cap2] 39)) := ⟨_, rfl⟩
  have hx0 : Ext w W0 := by rw [hW0]; exact Ext.trans (Ext.trans (Ext.trans (Ext.alloc _ _) (Ext.alloc _ _)) (Ext.alloc _ _)) (Ext.alloc _ _)
  have kb0 : Blk W0 w.heap.size 30 #[.int .i64 c, .int .i64 s, .int .i64 k, .int .i64 i, .int .i64 m, .string d] := by rw [hW0]; exact (((Blk.new _ _ _).alloc _).alloc _).alloc _
  have fz00 : ∀ V, Ext W0 V → V.cell? ⟨w.heap.size, 0, none⟩ = some (.int .i64 c) := fun V h => (kb0.stay h).cell 0
  have fz01 : ∀ V, Ext W0 V → V.cell? ⟨w.heap.size, 1, none⟩ = some (.int .i64 s) := fun V h => (kb0.stay h).cell 1
  have fz02 : ∀ V, Ext W0 V → V.cell? ⟨w.heap.size, 2, none⟩ = some (.int .i64 k) := fun V h => (kb0.stay h).cell 2
  have fz03 : ∀ V, Ext W0 V → V.cell? ⟨w.heap.size, 3, none⟩ = some (.int .i64 i) := fun V h => (kb0.stay h).cell 3
  have fz04 : ∀ V, Ext W0 V → V.cell? ⟨w.heap.size, 4, none⟩ = some (.int .i64 m) := fun V h => (kb0.stay h).cell 4
  have fz05 : ∀ V, Ext W0 V → V.cell? ⟨w.heap.size, 5, none⟩ = some (.string d) := fun V h => (kb0.stay h).cell 5
  have kb1 : Blk W0 (w.heap.size + 1) 30 #[.int .i64 c2, .int .i64 s2, .int .i64 k2, .int .i64 i2, .int .i64 m2, .string d2] := by rw [hW0]; exact ((Blk.new' _ _ _ _ (by simp)).alloc _).alloc _
  have fz10 : ∀ V, Ext W0 V → V.cell? ⟨(w.heap.size + 1), 0, none⟩ = some (.int .i64 c2) := fun V h => (kb1.stay h).cell 0
  have fz11 : ∀ V, Ext W0 V → V.cell? ⟨(w.heap.size + 1), 1, none⟩ = some (.int .i64 s2) := fun V h => (kb1.stay h).cell 1
  have fz12 : ∀ V, Ext W0 V → V.cell? ⟨(w.heap.size + 1), 2, none⟩ = some (.int .i64 k2) := fun V h => (kb1.stay h).cell 2
  have fz13 : ∀ V, Ext W0 V → V.cell? ⟨(w.heap.size + 1), 3, none⟩ = some (.int .i64 i2) := fun V h => (kb1.stay h).cell 3
  have fz14 : ∀ V, Ext W0 V → V.cell? ⟨(w.heap.size + 1), 4, none⟩ = some (.int .i64 m2) := fun V h => (kb1.stay h).cell 4
  have fz15 : ∀ V, Ext W0 V → V.cell? ⟨(w.heap.size + 1), 5, none⟩ = some (.string d2) := fun V h => (kb1.stay h).cell 5
  have kb2 : Blk W0 (w.heap.size + 1 + 1) 39 #[.int .i64 ep1, .slice A1 n1 cap1] := by rw [hW0]; exact (Blk.new' _ _ _ _ (by simp)).alloc _
  have fz20 : ∀ V, Ext W0 V → V.cell? ⟨(w.heap.size + 1 + 1), 0, none⟩ = some (.int .i64 ep1) := fun V h => (kb2.stay h).cell 0
  have fz21 : ∀ V, Ext W0 V → V.cell? ⟨(w.heap.size + 1 + 1), 1, none⟩ = some (.slice A1 n1 cap1) := fun V h => (kb2.stay h).cell 1
  have kb3 : Blk W0 (w.heap.size + 1 + 1 + 1) 39 #[.int .i64 ep2, .slice A2 n2 cap2] := by rw [hW0]; exact Blk.new' _ _ _ _ (by simp)
  have fz30 : ∀ V, Ext W0 V → V.cell? ⟨(w.heap.size + 1 + 1 + 1), 0, none⟩ = some (.int .i64 ep2) := fun V h => (kb3.stay h).cell 0
  have fz31 : ∀ V, Ext W0 V → V.cell? ⟨(w.heap.size + 1 + 1 + 1), 1, none⟩ = some (.slice A2 n2 cap2) := fun V h => (kb3.stay h).cell 1
  have HW0 := Lib.hid hW0
  have HX0 := Lib.hid hx0
  have E0 : Hid (Ext W0 W0) := Ext.refl _
  have HT : Hid (∀ V, Ext W0 V → Calls Try.prog 29 #[] V fun e w' => e = .returned (.bool true) ∧ Ext V w') := fun V _ => told2 V
  have hdm : d.size ≤ maxLen := by unfold maxLen; omega
  have hdm2 : d2.size ≤ maxLen := by unfold maxLen; omega
  have CFa : Hid (∀ V, Ext W0 V → Calls Try.prog 28 #[.agg #[.int .i64 c, .int .i64 s, .int .i64 k, .int .i64 i, .int .i64 m, .string d]] V fun e w' => e = .returned (.bool true) ∧ Ext V w') := fun V _ => by have h := few_any c s k i m d V hdm; rw [decide_eq_true hd] at h; exact h
  have CFb : Hid (∀ V, Ext W0 V → Calls Try.prog 28 #[.agg #[.int .i64 c2, .int .i64 s2, .int .i64 k2, .int .i64 i2, .int .i64 m2, .string d2]] V fun e w' => e = .returned (.bool true) ∧ Ext V w') := fun V _ => by have h := few_any c2 s2 k2 i2 m2 d2 V hdm2; rw [decide_eq_true hd2] at h; exact h
  obtain ⟨qa, qam, qae⟩ := rq_of hm
  obtain ⟨XA, hXA⟩ : ∃ L, L = putB qa := ⟨_, rfl⟩
  obtain ⟨x1, hx1⟩ : ∃ n, n = (putB qa).length := ⟨_, rfl⟩
  have CPa : Hid (∀ V, Ext W0 V → Calls Try.prog 31 #[.agg #[.int .i64 c, .int .i64 s, .int .i64 k, .int .i64 i, .int .i64 m, .string d]] V fun e w' => ∃ A' c', e = .returned (.tuple #[.slice A' x1 c', .int .i64 0]) ∧ Sl Go.Proofs.Ytdbnaflaobncgaa.u8 w' A' XA ∧ Ext V w') := fun V hV => by
    rw [qae, hx1, hXA]; exact putReq_yes qa V qam
  obtain ⟨qb, qbm, qbe⟩ := rq_of hm2
  obtain ⟨XB, hXB⟩ : ∃ L, L = putB qb := ⟨_, rfl⟩
  obtain ⟨x2, hx2⟩ : ∃ n, n = (putB qb).length := ⟨_, rfl⟩
  have CPb : Hid (∀ V, Ext W0 V → Calls Try.prog 31 #[.agg #[.int .i64 c2, .int .i64 s2, .int .i64 k2, .int .i64 i2, .int .i64 m2, .string d2]] V fun e w' => ∃ A' c', e = .returned (.tuple #[.slice A' x2 c', .int .i64 0]) ∧ Sl Go.Proofs.Ytdbnaflaobncgaa.u8 w' A' XB ∧ Ext V w') := fun V hV => by
    rw [qbe, hx2, hXB]; exact putReq_yes qb V qbm
  obtain ⟨sa, hsa⟩ : ∃ z, z = str XA := ⟨_, rfl⟩
  have HVA : Hid (∀ V A' c', Sl Go.Proofs.Ytdbnaflaobncgaa.u8 V A' XA → ∀ W, Ext V W → (convert 54 9 (.slice A' x1 c')).run Try.prog W = .ok (.string sa) W) := fun V A' c' h W hW => by
    have := run_str (P := Try.prog) (w := W) 54 9 5 A' XA c' Try.underlying54 Try.underlying5 Try.underlying9 (h.stay hW)
    rw [hx1, hsa, ← hXA]
    exact this
  obtain ⟨sb, hsb⟩ : ∃ z, z = str XB := ⟨_, rfl⟩
  have HVB : Hid (∀ V A' c', Sl Go.Proofs.Ytdbnaflaobncgaa.u8 V A' XB → ∀ W, Ext V W → (convert 54 9 (.slice A' x2 c')).run Try.prog W = .ok (.string sb) W) := fun V A' c' h W hW => by
    have := run_str (P := Try.prog) (w := W) 54 9 5 A' XB c' Try.underlying54 Try.underlying5 Try.underlying9 (h.stay hW)
    rw [hx2, hsb, ← hXB]
    exact this
  have HNEQ : Hid (c = c2 → s = s2 → k = k2 → i = i2 → m = m2 → ¬ d.toList = d2.toList) := fun q1 q2 q3 q4 q5 q6 => hne ⟨q1, q2, q3, q4, q5, Go.WideShapes.bytes_inj (by rw [← ByteArray.toList_eq, ← ByteArray.toList_eq]; exact q6)⟩
  have hsn : ¬ sa.toList = sb.toList := fun e => by
    have e1 : sa = sb := Go.WideShapes.bytes_inj (by rw [← ByteArray.toList_eq, ← ByteArray.toList_eq]; exact e)
    have e2 : XA = XB := by rw [hsa, hsb] at e1; exact str_inj e1
    rw [hXA, hXB] at e2
    have e3 := (putB_inj (r := []) (r' := []) qam qbm (by rw [e2])).1
    subst e3
    have e4 := qae.trans qbe.symm
    injection e4 with e4
    have g : ∀ j : Nat, (#[Value.int .i64 c, .int .i64 s, .int .i64 k, .int .i64 i, .int .i64 m, .string d] : Array Value)[j]? = (#[Value.int .i64 c2, .int .i64 s2, .int .i64 k2, .int .i64 i2, .int .i64 m2, .string d2] : Array Value)[j]? := fun j => by rw [e4]
    have g0 := g 0
    have g1 := g 1
    have g2 := g 2
    have g3 := g 3
    have g4 := g 4
    have g5 := g 5
    simp at g0 g1 g2 g3 g4 g5
    exact hne ⟨g0, g1, g2, g3, g4, g5⟩
  have hsn2 : ¬ sb.toList = sa.toList := fun e => hsn e.symm
  obtain ⟨e7, ns7, he7, hl7⟩ := mayChainB_ints hmc
  obtain ⟨X7, hX7⟩ : ∃ L, L = putC e7 ns7 := ⟨_, rfl⟩
  obtain ⟨z7, hz7⟩ : ∃ n, n = (putC e7 ns7).length := ⟨_, rfl⟩
  have CPc : Hid (∀ V, Ext W0 V → Calls Try.prog 38 #[.agg #[.int .i64 ep1, .slice A1 n1 cap1]] V fun e w' => ∃ A' c', e = .returned (.tuple #[.slice A' z7 c', .int .i64 0]) ∧ Sl Go.Proofs.Ytdbnaflaobncgaa.u8 w' A' X7 ∧ Ext V w') := fun V hV => by
    have h := putChain_yes e7 A1 cap1 ns7 V (by rw [hl7, ints_len] at hc1; exact hc1) (by rw [← hl7]; exact hs1.stay (Ext.trans hx0 hV)) (by rw [← he7, ← hl7]; exact hmc)
    rw [he7, hn1, hl7, ints_len, hz7, hX7]
    exact h
  obtain ⟨e8, ns8, he8, hl8⟩ := mayChainB_ints hmd
  obtain ⟨X8, hX8⟩ : ∃ L, L = putC e8 ns8 := ⟨_, rfl⟩
  obtain ⟨z8, hz8⟩ : ∃ n, n = (putC e8 ns8).length := ⟨_, rfl⟩
  have CPd : Hid (∀ V, Ext W0 V → Calls Try.prog 38 #[.agg #[.int .i64 ep2, .slice A2 n2 cap2]] V fun e w' => ∃ A' c', e = .returned (.tuple #[.slice A' z8 c', .int .i64 0]) ∧ Sl Go.Proofs.Ytdbnaflaobncgaa.u8 w' A' X8 ∧ Ext V w') := fun V hV => by
    have h := putChain_yes e8 A2 cap2 ns8 V (by rw [hl8, ints_len] at hc2; exact hc2) (by rw [← hl8]; exact hs2.stay (Ext.trans hx0 hV)) (by rw [← he8, ← hl8]; exact hmd)
    rw [he8, hn2, hl8, ints_len, hz8, hX8]
    exact h
  obtain ⟨sc, hsc⟩ : ∃ z, z = str X7 := ⟨_, rfl⟩
  obtain ⟨sd, hsd⟩ : ∃ z, z = str X8 := ⟨_, rfl⟩
  have HVC : Hid (∀ V A' c', Sl Go.Proofs.Ytdbnaflaobncgaa.u8 V A' X7 → ∀ W, Ext V W → (convert 54 9 (.slice A' z7 c')).run Try.prog W = .ok (.string sc) W) := fun V A' c' h W hW => by
    have := run_str (P := Try.prog) (w := W) 54 9 5 A' X7 c' Try.underlying54 Try.underlying5 Try.underlying9 (h.stay hW)
    rw [hz7, hsc, ← hX7]
    exact this
  have HVD : Hid (∀ V A' c', Sl Go.Proofs.Ytdbnaflaobncgaa.u8 V A' X8 → ∀ W, Ext V W → (convert 54 9 (.slice A' z8 c')).run Try.prog W = .ok (.string sd) W) := fun V A' c' h W hW => by
    have := run_str (P := Try.prog) (w := W) 54 9 5 A' X8 c' Try.underlying54 Try.underlying5 Try.underlying9 (h.stay hW)
    rw [hz8, hsd, ← hX8]
    exact this
  have HSS : Hid (sc = sd ↔ (ep1 = ep2 ∧ l1 = l2)) := by
    show _ ↔ _
    constructor
    · intro e
      have e2 : X7 = X8 := by rw [hsc, hsd] at e; exact str_inj e
      rw [hX7, hX8] at e2
      obtain ⟨g1, g2, _⟩ := putC_inj (r := []) (r' := []) (by rw [← he7, ← hl7]; exact hmc) (by rw [← he8, ← hl8]; exact hmd) (by rw [e2])
      exact ⟨by rw [he7, he8, g1], by rw [hl7, hl8, g2]⟩
    · rintro ⟨g1, g2⟩
      have g3 : e7 = e8 := by rw [he7, he8] at g1; omega
      have g4 : ns7 = ns8 := by rw [hl7, hl8] at g2; exact ints_inj g2
      rw [hsc, hsd, hX7, hX8, g3, g4]
  have HL1 : Hid (n1 = l1.length) := hn1
  have HL2 : Hid (n2 = l2.length) := hn2
  have HSC : Hid (∀ V, Ext W0 V → Sl i64 V A1 l1) := fun V hV => hs1.stay (Ext.trans hx0 hV)
  have HSD : Hid (∀ V, Ext W0 V → Sl i64 V A2 l2) := fun V hV => hs2.stay (Ext.trans hx0 hV)
  have b1 : ¬ (8 : Int) < (n1 : Int) := by omega
  have b2 : ¬ (8 : Int) < (n2 : Int) := by omega
  clear kb0 kb1 kb2 kb3 hx0 hW0 hdm hd hdm2 hd2 hm hm2 hne hn1 hn2 hc1 hc2 hs1 hs2 hmc hmd qae qam hx1 hXA qbe qbm hx2 hXB hsa hsb he7 hl7 hX7 hz7 he8 hl8 hX8 hz8 hsc hsd
  go_enter Try.func11, Try.ntmps11
  go_wp2_with fail
  rw [← HW0.out]
  have e0 := E0.out
  have W0z00 := fz00 W0 E0.out; have W0z01 := fz01 W0 E0.out; have W0z02 := fz02 W0 E0.out; have W0z03 := fz03 W0 E0.out; have W0z04 := fz04 W0 E0.out; have W0z05 := fz05 W0 E0.out; have W0z10 := fz10 W0 E0.out; have W0z11 := fz11 W0 E0.out; have W0z12 := fz12 W0 E0.out; have W0z13 := fz13 W0 E0.out; have W0z14 := fz14 W0 E0.out; have W0z15 := fz15 W0 E0.out; have W0z20 := fz20 W0 E0.out; have W0z21 := fz21 W0 E0.out; have W0z30 := fz30 W0 E0.out; have W0z31 := fz31 W0 E0.out
  go_wp2_with (first
    | (go_at_call 28; (with_reducible refine (CFa.out _ e0).mono ?_); rintro e w1 ⟨rfl, hx⟩; have Ew1 : Ext W0 w1 := Ext.trans e0 hx; have w1z00 := fz00 w1 Ew1; have w1z01 := fz01 w1 Ew1; have w1z02 := fz02 w1 Ew1; have w1z03 := fz03 w1 Ew1; have w1z04 := fz04 w1 Ew1; have w1z05 := fz05 w1 Ew1; have w1z10 := fz10 w1 Ew1; have w1z11 := fz11 w1 Ew1; have w1z12 := fz12 w1 Ew1; have w1z13 := fz13 w1 Ew1; have w1z14 := fz14 w1 Ew1; have w1z15 := fz15 w1 Ew1; have w1z20 := fz20 w1 Ew1; have w1z21 := fz21 w1 Ew1; have w1z30 := fz30 w1 Ew1; have w1z31 := fz31 w1 Ew1; clear hx)
    | (go_at_call 28; (with_reducible refine (CFb.out _ Ew1).mono ?_); rintro e w2 ⟨rfl, hx⟩; have Ew2 : Ext W0 w2 := Ext.trans Ew1 hx; have w2z00 := fz00 w2 Ew2; have w2z01 := fz01 w2 Ew2; have w2z02 := fz02 w2 Ew2; have w2z03 := fz03 w2 Ew2; have w2z04 := fz04 w2 Ew2; have w2z05 := fz05 w2 Ew2; have w2z10 := fz10 w2 Ew2; have w2z11 := fz11 w2 Ew2; have w2z12 := fz12 w2 Ew2; have w2z13 := fz13 w2 Ew2; have w2z14 := fz14 w2 Ew2; have w2z15 := fz15 w2 Ew2; have w2z20 := fz20 w2 Ew2; have w2z21 := fz21 w2 Ew2; have w2z30 := fz30 w2 Ew2; have w2z31 := fz31 w2 Ew2; clear hx)
    | (go_at_call 31; (with_reducible refine (CPa.out _ Ew2).mono ?_); rintro e w3 ⟨Aa, ca, rfl, hsx, hx⟩; have Ew3 : Ext W0 w3 := Ext.trans Ew2 hx; have w3z00 := fz00 w3 Ew3; have w3z01 := fz01 w3 Ew3; have w3z02 := fz02 w3 Ew3; have w3z03 := fz03 w3 Ew3; have w3z04 := fz04 w3 Ew3; have w3z05 := fz05 w3 Ew3; have w3z10 := fz10 w3 Ew3; have w3z11 := fz11 w3 Ew3; have w3z12 := fz12 w3 Ew3; have w3z13 := fz13 w3 Ew3; have w3z14 := fz14 w3 Ew3; have w3z15 := fz15 w3 Ew3; have w3z20 := fz20 w3 Ew3; have w3z21 := fz21 w3 Ew3; have w3z30 := fz30 w3 Ew3; have w3z31 := fz31 w3 Ew3; have HSA := Lib.hid hsx; clear hsx; clear hx)
    | (go_at_call 31; (with_reducible refine (CPb.out _ Ew3).mono ?_); rintro e w4 ⟨Ab, cb, rfl, hsx, hx⟩; have Ew4 : Ext W0 w4 := Ext.trans Ew3 hx; have w4z00 := fz00 w4 Ew4; have w4z01 := fz01 w4 Ew4; have w4z02 := fz02 w4 Ew4; have w4z03 := fz03 w4 Ew4; have w4z04 := fz04 w4 Ew4; have w4z05 := fz05 w4 Ew4; have w4z10 := fz10 w4 Ew4; have w4z11 := fz11 w4 Ew4; have w4z12 := fz12 w4 Ew4; have w4z13 := fz13 w4 Ew4; have w4z14 := fz14 w4 Ew4; have w4z15 := fz15 w4 Ew4; have w4z20 := fz20 w4 Ew4; have w4z21 := fz21 w4 Ew4; have w4z30 := fz30 w4 Ew4; have w4z31 := fz31 w4 Ew4; have HSB := Lib.hid hsx; have HSA2 : Hid (Sl Go.Proofs.Ytdbnaflaobncgaa.u8 w4 Aa XA) := HSA.out.stay hx; clear hsx; clear hx))
  have EW4 := Lib.hid Ew4
  clear W0z00 W0z01 W0z02 W0z03 W0z04 W0z05 W0z10 W0z11 W0z12 W0z13 W0z14 W0z15 W0z20 W0z21 W0z30 W0z31 w1z00 w1z01 w1z02 w1z03 w1z04 w1z05 w1z10 w1z11 w1z12 w1z13 w1z14 w1z15 w1z20 w1z21 w1z30 w1z31 w2z00 w2z01 w2z02 w2z03 w2z04 w2z05 w2z10 w2z11 w2z12 w2z13 w2z14 w2z15 w2z20 w2z21 w2z30 w2z31 w3z00 w3z01 w3z02 w3z03 w3z04 w3z05 w3z10 w3z11 w3z12 w3z13 w3z14 w3z15 w3z20 w3z21 w3z30 w3z31 w4z00 w4z01 w4z02 w4z03 w4z04 w4z05 w4z10 w4z11 w4z12 w4z13 w4z14 w4z15 w4z20 w4z21 w4z30 w4z31 Ew1 Ew2 Ew3 Ew4
  have hcva : ∀ W, Ext w4 W → (convert 54 9 (.slice Aa x1 ca)).run Try.prog W = .ok (.string sa) W := HVA.out _ _ _ HSA2.out
  have hcvb : ∀ W, Ext w4 W → (convert 54 9 (.slice Ab x2 cb)).run Try.prog W = .ok (.string sb) W := HVB.out _ _ _ HSB.out
  have X44 : Hid (Ext w4 w4) := Ext.refl _
  have fy00 : ∀ V, Ext w4 V → V.cell? ⟨w.heap.size, 0, none⟩ = some (.int .i64 c) := fun V h => fz00 V (Ext.trans EW4.out h)
  have fy01 : ∀ V, Ext w4 V → V.cell? ⟨w.heap.size, 1, none⟩ = some (.int .i64 s) := fun V h => fz01 V (Ext.trans EW4.out h)
  have fy02 : ∀ V, Ext w4 V → V.cell? ⟨w.heap.size, 2, none⟩ = some (.int .i64 k) := fun V h => fz02 V (Ext.trans EW4.out h)
  have fy03 : ∀ V, Ext w4 V → V.cell? ⟨w.heap.size, 3, none⟩ = some (.int .i64 i) := fun V h => fz03 V (Ext.trans EW4.out h)
  have fy04 : ∀ V, Ext w4 V → V.cell? ⟨w.heap.size, 4, none⟩ = some (.int .i64 m) := fun V h => fz04 V (Ext.trans EW4.out h)
  have fy05 : ∀ V, Ext w4 V → V.cell? ⟨w.heap.size, 5, none⟩ = some (.string d) := fun V h => fz05 V (Ext.trans EW4.out h)
  have fy10 : ∀ V, Ext w4 V → V.cell? ⟨(w.heap.size + 1), 0, none⟩ = some (.int .i64 c2) := fun V h => fz10 V (Ext.trans EW4.out h)
  have fy11 : ∀ V, Ext w4 V → V.cell? ⟨(w.heap.size + 1), 1, none⟩ = some (.int .i64 s2) := fun V h => fz11 V (Ext.trans EW4.out h)
  have fy12 : ∀ V, Ext w4 V → V.cell? ⟨(w.heap.size + 1), 2, none⟩ = some (.int .i64 k2) := fun V h => fz12 V (Ext.trans EW4.out h)
  have fy13 : ∀ V, Ext w4 V → V.cell? ⟨(w.heap.size + 1), 3, none⟩ = some (.int .i64 i2) := fun V h => fz13 V (Ext.trans EW4.out h)
  have fy14 : ∀ V, Ext w4 V → V.cell? ⟨(w.heap.size + 1), 4, none⟩ = some (.int .i64 m2) := fun V h => fz14 V (Ext.trans EW4.out h)
  have fy15 : ∀ V, Ext w4 V → V.cell? ⟨(w.heap.size + 1), 5, none⟩ = some (.string d2) := fun V h => fz15 V (Ext.trans EW4.out h)
  refine ext_begin (by kernel_rfl) ?_
  have X44d := Lib.hid (Ext.drewR X44.out)
  refine ext_take (i := 0) (v := ?_) rfl (by kernel_rfl) (by kernel_rfl) (by kernel_rfl) (fun _ _ _ h => h) (by rfl) ?_ ?_
  rotate_left
  · intro W hW; have hW0 := Ext.trans X44d.out hW; clear hW; go_simp <;> with_reducible rfl
  try simp only [Act.put, List.setIfInBounds_toArray, List.set_cons_zero, List.set_cons_succ]
  refine ext_take (i := 1) (v := ?_) rfl (by kernel_rfl) (by kernel_rfl) (by kernel_rfl) (fun _ _ _ h => h) (by rfl) ?_ ?_
  rotate_left
  · intro W hW; have hW0 := Ext.trans X44d.out hW; clear hW; go_simp <;> with_reducible rfl
  try simp only [Act.put, List.setIfInBounds_toArray, List.set_cons_zero, List.set_cons_succ]
  refine ext_take (i := 2) (v := ?_) rfl (by kernel_rfl) (by kernel_rfl) (by kernel_rfl) (fun _ _ _ h => h) (by rfl) ?_ ?_
  rotate_left
  · intro W hW; have hW0 := Ext.trans X44d.out hW; clear hW; go_simp <;> with_reducible rfl
  try simp only [Act.put, List.setIfInBounds_toArray, List.set_cons_zero, List.set_cons_succ]
  refine ext_take (i := 3) (v := ?_) rfl (by kernel_rfl) (by kernel_rfl) (by kernel_rfl) (fun _ _ _ h => h) (by rfl) ?_ ?_
  rotate_left
  · intro W hW; have hW0 := Ext.trans X44d.out hW; clear hW; go_simp <;> with_reducible rfl
  try simp only [Act.put, List.setIfInBounds_toArray, List.set_cons_zero, List.set_cons_succ]
  refine ext_take (i := 4) (v := ?_) rfl (by kernel_rfl) (by kernel_rfl) (by kernel_rfl) (fun _ _ _ h => h) (by rfl) ?_ ?_
  rotate_left
  · intro W hW; have hW0 := Ext.trans X44d.out hW; clear hW; go_simp <;> with_reducible rfl
  try simp only [Act.put, List.setIfInBounds_toArray, List.set_cons_zero, List.set_cons_succ]
  refine ext_take (i := 5) (v := ?_) rfl (by kernel_rfl) (by kernel_rfl) (by kernel_rfl) (fun _ _ _ h => h) (by rfl) ?_ ?_
  rotate_left
  · intro W hW; have hW0 := Ext.trans X44d.out hW; clear hW; go_simp <;> with_reducible rfl
  try simp only [Act.put, List.setIfInBounds_toArray, List.set_cons_zero, List.set_cons_succ]
  refine ext_take (i := 6) (v := ?_) rfl (by kernel_rfl) (by kernel_rfl) (by kernel_rfl) (fun _ _ _ h => h) (by rfl) ?_ ?_
  rotate_left
  · intro W hW; have hW0 := Ext.trans X44d.out hW; clear hW; go_simp <;> with_reducible rfl
  try simp only [Act.put, List.setIfInBounds_toArray, List.set_cons_zero, List.set_cons_succ]
  refine ext_take (i := 7) (v := ?_) rfl (by kernel_rfl) (by kernel_rfl) (by kernel_rfl) (fun _ _ _ h => h) (by rfl) ?_ ?_
  rotate_left
  · intro W hW; have hW0 := Ext.trans X44d.out hW; clear hW; go_simp <;> with_reducible rfl
  try simp only [Act.put, List.setIfInBounds_toArray, List.set_cons_zero, List.set_cons_succ]
  refine ext_take (i := 8) (v := .string sa) rfl (by kernel_rfl) (by kernel_rfl) (by kernel_rfl) (fun _ _ _ h => h) (by rfl) ?_ ?_
  · intro W hW; have hW0 := Ext.trans X44d.out hW; clear hW; have hh := hcva W hW0; go_simp; all_goals (first | exact hh | (rw [hh]; done) | (rw [hh]; rfl))
  try simp only [Act.put, List.setIfInBounds_toArray, List.set_cons_zero, List.set_cons_succ]
  refine ext_take (i := 9) (v := ?_) rfl (by kernel_rfl) (by kernel_rfl) (by kernel_rfl) (fun _ _ _ h => h) (by rfl) ?_ ?_
  rotate_left
  · intro W hW; have hW0 := Ext.trans X44d.out hW; clear hW; go_simp <;> with_reducible rfl
  try simp only [Act.put, List.setIfInBounds_toArray, List.set_cons_zero, List.set_cons_succ]
  refine ext_take (i := 10) (v := .string sb) rfl (by kernel_rfl) (by kernel_rfl) (by kernel_rfl) (fun _ _ _ h => h) (by rfl) ?_ ?_
  · intro W hW; have hW0 := Ext.trans X44d.out hW; clear hW; have hh := hcvb W hW0; go_simp; all_goals (first | exact hh | (rw [hh]; done) | (rw [hh]; rfl))
  try simp only [Act.put, List.setIfInBounds_toArray, List.set_cons_zero, List.set_cons_succ]
  refine ext_take (i := 11) (v := .bool false) rfl (by kernel_rfl) (by kernel_rfl) (by kernel_rfl) (fun _ _ _ h => h) (by rfl) ?_ ?_
  · intro W hW; have hW0 := Ext.trans X44d.out hW; clear hW; go_simp; all_goals (first | done | (simp [hsn]; done))
  try simp only [Act.put, List.setIfInBounds_toArray, List.set_cons_zero, List.set_cons_succ]
  refine ext_take (i := 12) (v := ?_) rfl (by kernel_rfl) (by kernel_rfl) (by kernel_rfl) (fun _ _ _ h => h) (by rfl) ?_ ?_
  rotate_left
  · intro W hW; have hW0 := Ext.trans X44d.out hW; clear hW; go_simp <;> with_reducible rfl
  try simp only [Act.put, List.setIfInBounds_toArray, List.set_cons_zero, List.set_cons_succ]
  refine ext_take (i := 13) (v := ?_) rfl (by kernel_rfl) (by kernel_rfl) (by kernel_rfl) (fun _ _ _ h => h) (by rfl) ?_ ?_
  rotate_left
  · intro W hW; have hW0 := Ext.trans X44d.out hW; clear hW; go_simp <;> with_reducible rfl
  try simp only [Act.put, List.setIfInBounds_toArray, List.set_cons_zero, List.set_cons_succ]
  refine ext_take (i := 14) (v := .bool false) rfl (by kernel_rfl) (by kernel_rfl) (by kernel_rfl) (fun _ _ _ h => h) (by rfl) ?_ ?_
  · intro W hW; have hW0 := Ext.trans X44d.out hW; clear hW; go_simp; all_goals (first | done | exact HNEQ.out)
  try simp only [Act.put, List.setIfInBounds_toArray, List.set_cons_zero, List.set_cons_succ]
  refine ext_take (i := 15) (v := ?_) rfl (by kernel_rfl) (by kernel_rfl) (by kernel_rfl) (fun _ _ _ h => h) (by rfl) ?_ ?_
  rotate_left
  · intro W hW; have hW0 := Ext.trans X44d.out hW; clear hW; go_simp <;> with_reducible rfl
  try simp only [Act.put, List.setIfInBounds_toArray, List.set_cons_zero, List.set_cons_succ]
  refine ext_take (i := 16) (v := ?_) rfl (by kernel_rfl) (by kernel_rfl) (by kernel_rfl) (fun _ _ _ h => h) (by rfl) ?_ ?_
  rotate_left
  · intro W hW; have hW0 := Ext.trans X44d.out hW; clear hW; go_simp <;> with_reducible rfl
  try simp only [Act.put, List.setIfInBounds_toArray, List.set_cons_zero, List.set_cons_succ]
  refine wpAnyH_done (by kernel_rfl) ?_ _
  have EX : Hid (Ext W0 w4.drew) := Ext.trans EW4.out X44d.out
  clear X44d hcva hcvb fy00 fy01 fy02 fy03 fy04 fy05 fy10 fy11 fy12 fy13 fy14 fy15
  have ex := EX.out
  have wd20 := fz20 _ ex
  have wd21 := fz21 _ ex
  have wd30 := fz30 _ ex
  have wd31 := fz31 _ ex
  by_cases hee : ep1 = ep2 ∧ n1 = n2
  · obtain ⟨rfl, hnn⟩ := hee
    subst hnn
    go_wp2_with (first
      | (go_at_call 38; (with_reducible refine (CPc.out _ ex).mono ?_); rintro e w5 ⟨Ac, cc, rfl, hsx, hx⟩; have Ew5 : Ext W0 w5 := Ext.trans ex hx; have w5z20 := fz20 w5 Ew5; have w5z21 := fz21 w5 Ew5; have w5z30 := fz30 w5 Ew5; have w5z31 := fz31 w5 Ew5; have HSc := Lib.hid hsx; clear hsx; clear hx)
      | (go_at_call 38; (with_reducible refine (CPd.out _ Ew5).mono ?_); rintro e w6 ⟨Ad, cd, rfl, hsx, hx⟩; have Ew6 : Ext W0 w6 := Ext.trans Ew5 hx; have w6z20 := fz20 w6 Ew6; have w6z21 := fz21 w6 Ew6; have w6z30 := fz30 w6 Ew6; have w6z31 := fz31 w6 Ew6; have HSd := Lib.hid hsx; have HSc2 : Hid (Sl Go.Proofs.Ytdbnaflaobncgaa.u8 w6 Ac X7) := HSc.out.stay hx; clear hsx; clear hx))
    go_loopw [17, 18] (fun b i wr => ∃ (k : Nat) (bv : Bool), k ≤ n1 ∧ b = .bool bv ∧ i = .int .i64 k ∧ Hid ((bv = true → l1.take k = l2.take k) ∧ (bv = false → ¬ l1 = l2)) ∧ Hid (Ext W0 wr ∧ Ext w6 wr)) (fun _ i _ => n1 - (intOf i).toNat)
    case atStart => exact ⟨0, true, Nat.zero_le _, rfl, rfl, ⟨fun _ => rfl, fun h => by simp at h⟩, Ew6, Ext.refl _⟩
    case round =>
      obtain ⟨k, bv, hk, rfl, rfl, HI, HE⟩ := hrel
      have eW := HE.out.1
      have eW6 := HE.out.2
      have wrz20 := fz20 wr eW; have wrz21 := fz21 wr eW; have wrz30 := fz30 wr eW; have wrz31 := fz31 wr eW
      cases bv with
      | false =>
        have hne := HI.out.2 rfl
        have hsn : ¬ sc.toList = sd.toList := fun e => hne (HSS.out.1 (Go.WideShapes.bytes_inj (by rw [← ByteArray.toList_eq, ← ByteArray.toList_eq]; exact e))).2
        clear HI
        go_wp2_with (go_at_call 29; (with_reducible refine (HT.out _ eW).mono ?_); rintro e w9 ⟨rfl, hx⟩; have E9 : Ext W0 w9 := Ext.trans eW hx; have hv1 := HVC.out _ Ac cc HSc2.out w9 (Ext.trans eW6 hx); have hv2 := HVD.out _ Ad cd HSd.out w9 (Ext.trans eW6 hx); clear hx)
        try go_ret
        first | exact hD.out _ _ ⟨rfl, Ext.trans HX0.out E9⟩ | exact hD.out _ _ ⟨ret_bool (show (!(sc.toList == sd.toList)) = true by simp [hsn]), Ext.trans HX0.out E9⟩
      | true =>
        have htk := Lib.hid (HI.out.1 rfl)
        clear HI
        by_cases hlt : k < n1
        · have hs1 := HSC.out _ eW
          have hs2 := HSD.out _ eW
          obtain ⟨g1, o1, rfl, hc1⟩ := hs1.at_ (k := k) (by have := HL1.out; omega)
          obtain ⟨g2, o2, rfl, hc2⟩ := hs2.at_ (k := k) (by have := HL2.out; omega)
          have hk1 : k < l1.length := by have := HL1.out; omega
          have hk2 : k < l2.length := by have := HL2.out; omega
          have HT1 : Hid (l1.take (k + 1) = l1.take k ++ [l1[k]]) := List.take_succ_eq_append_getElem hk1
          have HT2 : Hid (l2.take (k + 1) = l2.take k ++ [l2[k]]) := List.take_succ_eq_append_getElem hk2
          have HG : Hid (¬ l1[k] = l2[k] → ¬ l1 = l2) := fun h e => h (by subst e; rfl)
          clear hs1 hs2
          generalize l1[k] = x at *
          generalize l2[k] = y at *
          unfold i64 at hc1 hc2
          have hk0 : (0 : Int) ≤ (k : Int) := by omega
          have hk3 : (k : Int) < (n1 : Int) := by omega
          by_cases hxy : x = y
          · subst hxy
            go_wp2
            go_quiet (fail)
            go_wp2
            go_roundw
            case rel => exact ⟨k + 1, true, by omega, by first | rfl | simp, by go_num, ⟨fun _ => by rw [HT1.out, HT2.out, htk.out], fun h => by simp at h⟩, HE.out.1.drewN, HE.out.2.drewN⟩
            case measure => simp [intOf]; omega
          · have hn := HG.out hxy
            go_wp2
            go_quiet (fail)
            go_wp2
            go_roundw
            case rel => exact ⟨k + 1, false, by omega, by first | rfl | simp [hxy], by go_num, ⟨fun h => by simp at h, fun _ => hn⟩, HE.out.1.drewN, HE.out.2.drewN⟩
            case measure => simp [intOf]; omega
        · have hk3 : ¬ (k : Int) < (n1 : Int) := by omega
          have e1 : l1 = l2 := by
            have h := htk.out
            rw [List.take_of_length_le (by have := HL1.out; omega), List.take_of_length_le (by have := HL2.out; omega)] at h
            exact h
          have e2 : sc = sd := HSS.out.2 (by first | exact ⟨rfl, e1⟩ | exact ⟨trivial, e1⟩)
          subst e2
          go_wp2_with (go_at_call 29; (with_reducible refine (HT.out _ eW).mono ?_); rintro e w9 ⟨rfl, hx⟩; have E9 : Ext W0 w9 := Ext.trans eW hx; have hv1 := HVC.out _ Ac cc HSc2.out w9 (Ext.trans eW6 hx); have hv2 := HVD.out _ Ad cd HSd.out w9 (Ext.trans eW6 hx); clear hx)
          try go_ret
          first | exact hD.out _ _ ⟨rfl, Ext.trans HX0.out E9⟩ | exact hD.out _ _ ⟨ret_bool (show (!(sc.toList == sd.toList)) = true by simp [hsn]), Ext.trans HX0.out E9⟩
  · have hne : ¬ sc = sd := fun e => hee ⟨(HSS.out.1 e).1, by rw [HL1.out, HL2.out, (HSS.out.1 e).2]⟩
    have hsn : ¬ sc.toList = sd.toList := fun e => hne (Go.WideShapes.bytes_inj (by rw [← ByteArray.toList_eq, ← ByteArray.toList_eq]; exact e))
    by_cases hep : ep1 = ep2
    · subst hep
      have hnn : ¬ n1 = n2 := fun e => hee ⟨rfl, e⟩
      have hnn2 : ¬ (n1 : Int) = (n2 : Int) := by omega
      clear hee
      go_wp2_with (first
        | (go_at_call 38; (with_reducible refine (CPc.out _ ex).mono ?_); rintro e w5 ⟨Ac, cc, rfl, hsx, hx⟩; have Ew5 : Ext W0 w5 := Ext.trans ex hx; have w5z20 := fz20 w5 Ew5; have w5z21 := fz21 w5 Ew5; have w5z30 := fz30 w5 Ew5; have w5z31 := fz31 w5 Ew5; have HSc := Lib.hid hsx; clear hsx; clear hx)
        | (go_at_call 38; (with_reducible refine (CPd.out _ Ew5).mono ?_); rintro e w6 ⟨Ad, cd, rfl, hsx, hx⟩; have Ew6 : Ext W0 w6 := Ext.trans Ew5 hx; have w6z20 := fz20 w6 Ew6; have w6z21 := fz21 w6 Ew6; have w6z30 := fz30 w6 Ew6; have w6z31 := fz31 w6 Ew6; have HSd := Lib.hid hsx; have HSc2 : Hid (Sl Go.Proofs.Ytdbnaflaobncgaa.u8 w6 Ac X7) := HSc.out.stay hx; clear hsx; clear hx))
      go_loopw [17, 18] (fun b i wr => b = .bool false ∧ i = .int .i64 0 ∧ Hid (Ext W0 wr ∧ Ext w6 wr)) (fun _ _ _ => 0)
      case atStart => exact ⟨by first | rfl | (simp [hnn2]; done) | (simp; omega), rfl, Ew6, Ext.refl _⟩
      case round =>
        obtain ⟨rfl, rfl, HE⟩ := hrel
        have eW := HE.out.1
        have eW6 := HE.out.2
        have wrz20 := fz20 wr eW; have wrz21 := fz21 wr eW; have wrz30 := fz30 wr eW; have wrz31 := fz31 wr eW
        go_wp2_with (go_at_call 29; (with_reducible refine (HT.out _ eW).mono ?_); rintro e w9 ⟨rfl, hx⟩; have E9 : Ext W0 w9 := Ext.trans eW hx; have hv1 := HVC.out _ Ac cc HSc2.out w9 (Ext.trans eW6 hx); have hv2 := HVD.out _ Ad cd HSd.out w9 (Ext.trans eW6 hx); clear hx)
        try go_ret
        first | exact hD.out _ _ ⟨rfl, Ext.trans HX0.out E9⟩ | exact hD.out _ _ ⟨ret_bool (show (!(sc.toList == sd.toList)) = true by simp [hsn]), Ext.trans HX0.out E9⟩
    · clear hee
      go_wp2_with (first
        | (go_at_call 38; (with_reducible refine (CPc.out _ ex).mono ?_); rintro e w5 ⟨Ac, cc, rfl, hsx, hx⟩; have Ew5 : Ext W0 w5 := Ext.trans ex hx; have w5z20 := fz20 w5 Ew5; have w5z21 := fz21 w5 Ew5; have w5z30 := fz30 w5 Ew5; have w5z31 := fz31 w5 Ew5; have HSc := Lib.hid hsx; clear hsx; clear hx)
        | (go_at_call 38; (with_reducible refine (CPd.out _ Ew5).mono ?_); rintro e w6 ⟨Ad, cd, rfl, hsx, hx⟩; have Ew6 : Ext W0 w6 := Ext.trans Ew5 hx; have w6z20 := fz20 w6 Ew6; have w6z21 := fz21 w6 Ew6; have w6z30 := fz30 w6 Ew6; have w6z31 := fz31 w6 Ew6; have HSd := Lib.hid hsx; have HSc2 : Hid (Sl Go.Proofs.Ytdbnaflaobncgaa.u8 w6 Ac X7) := HSc.out.stay hx; clear hsx; clear hx))
      go_loopw [17, 18] (fun b i wr => b = .bool false ∧ i = .int .i64 0 ∧ Hid (Ext W0 wr ∧ Ext w6 wr)) (fun _ _ _ => 0)
      case atStart => exact ⟨by first | rfl | simp [hep], rfl, Ew6, Ext.refl _⟩
      case round =>
        obtain ⟨rfl, rfl, HE⟩ := hrel
        have eW := HE.out.1
        have eW6 := HE.out.2
        have wrz20 := fz20 wr eW; have wrz21 := fz21 wr eW; have wrz30 := fz30 wr eW; have wrz31 := fz31 wr eW
        go_wp2_with (go_at_call 29; (with_reducible refine (HT.out _ eW).mono ?_); rintro e w9 ⟨rfl, hx⟩; have E9 : Ext W0 w9 := Ext.trans eW hx; have hv1 := HVC.out _ Ac cc HSc2.out w9 (Ext.trans eW6 hx); have hv2 := HVD.out _ Ad cd HSd.out w9 (Ext.trans eW6 hx); clear hx)
        try go_ret
        first | exact hD.out _ _ ⟨rfl, Ext.trans HX0.out E9⟩ | exact hD.out _ _ ⟨ret_bool (show (!(sc.toList == sd.toList)) = true by simp [hsn]), Ext.trans HX0.out E9⟩

theorem walk_itemApart (c s k i m : Int) (d : ByteArray) (c2 s2 k2 i2 m2 : Int) (d2 : ByteArray) (ep1 : Int) (A1 : Option Addr) (cap1 : Nat) (l1 : List Int) (ep2 : Int) (A2 : Option Addr) (cap2 : Nat) (l2 : List Int) (w : World) (hd : d.size ≤ maxLen) (hd2 : d2.size ≤ maxLen) (hc1 : l1.length ≤ cap1) (_ : l1.length ≤ 9223372036854775807) (hs1 : Sl i64 w A1 l1) (hc2 : l2.length ≤ cap2) (_ : l2.length ≤ 9223372036854775807) (hs2 : Sl i64 w A2 l2) :
    Calls Try.prog 11 #[.agg #[.int .i64 c, .int .i64 s, .int .i64 k, .int .i64 i, .int .i64 m, .string d], .agg #[.int .i64 c2, .int .i64 s2, .int .i64 k2, .int .i64 i2, .int .i64 m2, .string d2], .agg #[.int .i64 ep1, .slice A1 l1.length cap1], .agg #[.int .i64 ep2, .slice A2 l2.length cap2]] w fun e w' => e = .returned (.bool true) ∧ Below w.heap.size w w' := by
  by_cases hf : d.size ≤ 300
  · by_cases hg : d2.size ≤ 300
    · by_cases h1 : l1.length ≤ 8
      · by_cases h2 : l2.length ≤ 8
        · cases hm : mayReqB c s k i m d.size with
          | false =>
            cases hmc : mayChainB ep1 l1 with
            | false => exact apart_0_0 c s k i m d c2 s2 k2 i2 m2 d2 ep1 A1 cap1 _ ep2 A2 cap2 _ w hf hg hm l1 l2 rfl rfl h1 h2 hc1 hc2 hs1 hs2 hmc
            | true =>
              cases hmd : mayChainB ep2 l2 with
              | false => exact apart_0_1 c s k i m d c2 s2 k2 i2 m2 d2 ep1 A1 cap1 _ ep2 A2 cap2 _ w hf hg hm l1 l2 rfl rfl h1 h2 hc1 hc2 hs1 hs2 hmc hmd
              | true => exact apart_0_2 c s k i m d c2 s2 k2 i2 m2 d2 ep1 A1 cap1 _ ep2 A2 cap2 _ w hf hg hm l1 l2 rfl rfl h1 h2 hc1 hc2 hs1 hs2 hmc hmd
          | true =>
            cases hm2 : mayReqB c2 s2 k2 i2 m2 d2.size with
            | false =>
              cases hmc : mayChainB ep1 l1 with
              | false => exact apart_1_0 c s k i m d c2 s2 k2 i2 m2 d2 ep1 A1 cap1 _ ep2 A2 cap2 _ w hf hg hm hm2 l1 l2 rfl rfl h1 h2 hc1 hc2 hs1 hs2 hmc
              | true =>
                cases hmd : mayChainB ep2 l2 with
                | false => exact apart_1_1 c s k i m d c2 s2 k2 i2 m2 d2 ep1 A1 cap1 _ ep2 A2 cap2 _ w hf hg hm hm2 l1 l2 rfl rfl h1 h2 hc1 hc2 hs1 hs2 hmc hmd
                | true => exact apart_1_2 c s k i m d c2 s2 k2 i2 m2 d2 ep1 A1 cap1 _ ep2 A2 cap2 _ w hf hg hm hm2 l1 l2 rfl rfl h1 h2 hc1 hc2 hs1 hs2 hmc hmd
            | true =>
              by_cases hne : c = c2 ∧ s = s2 ∧ k = k2 ∧ i = i2 ∧ m = m2 ∧ d = d2
              · obtain ⟨rfl, rfl, rfl, rfl, rfl, rfl⟩ := hne
                cases hmc : mayChainB ep1 l1 with
                | false => exact apart_2_0 c s k i m d ep1 A1 cap1 _ ep2 A2 cap2 _ w hf hm l1 l2 rfl rfl h1 h2 hc1 hc2 hs1 hs2 hmc
                | true =>
                  cases hmd : mayChainB ep2 l2 with
                  | false => exact apart_2_1 c s k i m d ep1 A1 cap1 _ ep2 A2 cap2 _ w hf hm l1 l2 rfl rfl h1 h2 hc1 hc2 hs1 hs2 hmc hmd
                  | true => exact apart_2_2 c s k i m d ep1 A1 cap1 _ ep2 A2 cap2 _ w hf hm l1 l2 rfl rfl h1 h2 hc1 hc2 hs1 hs2 hmc hmd
              · cases hmc : mayChainB ep1 l1 with
                | false => exact apart_3_0 c s k i m d c2 s2 k2 i2 m2 d2 ep1 A1 cap1 _ ep2 A2 cap2 _ w hf hg hm hm2 hne l1 l2 rfl rfl h1 h2 hc1 hc2 hs1 hs2 hmc
                | true =>
                  cases hmd : mayChainB ep2 l2 with
                  | false => exact apart_3_1 c s k i m d c2 s2 k2 i2 m2 d2 ep1 A1 cap1 _ ep2 A2 cap2 _ w hf hg hm hm2 hne l1 l2 rfl rfl h1 h2 hc1 hc2 hs1 hs2 hmc hmd
                  | true => exact apart_3_2 c s k i m d c2 s2 k2 i2 m2 d2 ep1 A1 cap1 _ ep2 A2 cap2 _ w hf hg hm hm2 hne l1 l2 rfl rfl h1 h2 hc1 hc2 hs1 hs2 hmc hmd
        · exact apart_no c s k i m d c2 s2 k2 i2 m2 d2 ep1 A1 cap1 _ ep2 A2 cap2 _ w _ _ hd hd2 rfl rfl (.inr (.inr (by omega)))
      · exact apart_no c s k i m d c2 s2 k2 i2 m2 d2 ep1 A1 cap1 _ ep2 A2 cap2 _ w _ _ hd hd2 rfl rfl (.inr (.inl (by omega)))
    · exact apart_no c s k i m d c2 s2 k2 i2 m2 d2 ep1 A1 cap1 _ ep2 A2 cap2 _ w _ _ hd hd2 rfl (decide_eq_false hg) (.inl (by simp))
  · exact apart_no c s k i m d c2 s2 k2 i2 m2 d2 ep1 A1 cap1 _ ep2 A2 cap2 _ w _ _ hd hd2 (decide_eq_false hf) rfl (.inl (by simp))

set_option maxRecDepth 100000 in
theorem law_itemApart {H : Type} {enc : TypeId × Value → H} (W : World) (base : Nat) (args : Array Value) (ds : List (DataW H)) (p : List MemPlace)
    (hval : ∀ (j : Nat) t v, Try.f11.params[j]? = some t → args[j]? = some v → Value.okWide Try.prog W .any base t v)
    (hA : DataW.TrodAll enc Try.prog W 0 (fun _ => true) true Try.f11.params.toList args.toList ds p) :
    Calls Try.prog 11 args W fun e W' => e = .returned (.bool true) ∧ Below W.heap.size W W' := by
  rw [Try.params11] at hA hval
  obtain ⟨v0, vs0, d0, ds0, p0, q0, hargs, rfl, rfl, h0, r0⟩ := trodAll_cons hA
  obtain ⟨v1, vs1, d1, ds1, p1, q1, rfl, rfl, rfl, h1, r1⟩ := trodAll_cons r0
  obtain ⟨v2, vs2, d2, ds2, p2, q2, rfl, rfl, rfl, h2, r2⟩ := trodAll_cons r1
  obtain ⟨v3, vs3, d3, ds3, p3, q3, rfl, rfl, rfl, h3, r3⟩ := trodAll_cons r2
  obtain ⟨rfl, rfl, rfl⟩ := trodAll_nil r3
  obtain rfl : args = #[v0, v1, v2, v3] := by cases args; simp_all
  obtain ⟨c0, s0, k0, i0, m0, x0, rfl, wc0, ws0, wk0, wi0, wm0, z0⟩ := open_req (hval 0 30 v0 rfl rfl) h0
  obtain ⟨c1, s1, k1, i1, m1, x1, rfl, wc1, ws1, wk1, wi1, wm1, z1⟩ := open_req (hval 1 30 v1 rfl rfl) h1
  obtain ⟨ep2, A2, c2, l2, rfl, w2, x2, y2, z2, g2⟩ := open_chain (hval 2 39 v2 rfl rfl) h2
  obtain ⟨ep3, A3, c3, l3, rfl, w3, x3, y3, z3, g3⟩ := open_chain (hval 3 39 v3 rfl rfl) h3
  exact walk_itemApart c0 s0 k0 i0 m0 x0 c1 s1 k1 i1 m1 x1 ep2 A2 c2 l2 ep3 A3 c3 l3 W z0 z1 x2 (Nat.le_trans x2 y2) z2 x3 (Nat.le_trans x3 y3) z3

end Go.Proofs.Ytdbnaflaobncgaa
