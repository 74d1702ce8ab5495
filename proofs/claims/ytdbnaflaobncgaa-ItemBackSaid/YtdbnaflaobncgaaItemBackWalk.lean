/-
  The walk of the law ItemBack.
-/
import Derived.Test.YtdbnaflaobncgaaItemReqsWalk
import Derived.Test.YtdbnaflaobncgaaRefGetReq
import Derived.Test.YtdbnaflaobncgaaItemPut2
namespace Go.Proofs.Ytdbnaflaobncgaa
set_option linter.unusedVariables false
set_option linter.unusedSimpArgs false
open Go.RowKit Go.ChangeShapes Go.WideShapes

set_option maxRecDepth 8000 in
set_option maxHeartbeats 8000000 in
theorem back_few (c s k i m : Int) (d : ByteArray) (at_ x : Int) (w : World) (hd : d.size ≤ maxLen) (hf : ¬ d.size ≤ 300) :
    Calls Try.prog 8 #[.agg #[.int .i64 c, .int .i64 s, .int .i64 k, .int .i64 i, .int .i64 m, .string d], .int .i64 at_, .int .u8 x] w fun e w' => e = .returned (.bool true) ∧ Below w.heap.size w w' := by
  refine hide_post fun D hD => ?_
  obtain ⟨W0, hW0⟩ : ∃ W0, W0 = w.alloc (.cells #[.int .i64 c, .int .i64 s, .int .i64 k, .int .i64 i, .int .i64 m, .string d] 30) := ⟨_, rfl⟩
  have kB : Blk W0 w.heap.size 30 #[.int .i64 c, .int .i64 s, .int .i64 k, .int .i64 i, .int .i64 m, .string d] := by rw [hW0]; exact Blk.new _ _ _
  have hx0 : Ext w W0 := by rw [hW0]; exact Ext.alloc _ _
  have HW0 := Lib.hid hW0
  have HX0 := Lib.hid hx0
  have KB0 := Lib.hid kB
  have fz0 : ∀ V, Ext W0 V → V.cell? ⟨w.heap.size, 0, none⟩ = some (.int .i64 c) := fun V h => (kB.stay h).cell 0
  have fz1 : ∀ V, Ext W0 V → V.cell? ⟨w.heap.size, 1, none⟩ = some (.int .i64 s) := fun V h => (kB.stay h).cell 1
  have fz2 : ∀ V, Ext W0 V → V.cell? ⟨w.heap.size, 2, none⟩ = some (.int .i64 k) := fun V h => (kB.stay h).cell 2
  have fz3 : ∀ V, Ext W0 V → V.cell? ⟨w.heap.size, 3, none⟩ = some (.int .i64 i) := fun V h => (kB.stay h).cell 3
  have fz4 : ∀ V, Ext W0 V → V.cell? ⟨w.heap.size, 4, none⟩ = some (.int .i64 m) := fun V h => (kB.stay h).cell 4
  have fz5 : ∀ V, Ext W0 V → V.cell? ⟨w.heap.size, 5, none⟩ = some (.string d) := fun V h => (kB.stay h).cell 5
  have E0 : Hid (Ext W0 W0) := Ext.refl _
  have HT : Hid (∀ V, Ext W0 V → Calls Try.prog 29 #[] V fun e w' => e = .returned (.bool true) ∧ Ext V w') := fun V _ => told2 V
  have CF : Hid (∀ V, Ext W0 V → Calls Try.prog 28 #[.agg #[.int .i64 c, .int .i64 s, .int .i64 k, .int .i64 i, .int .i64 m, .string d]] V fun e w' => e = .returned (.bool false) ∧ Ext V w') := fun V _ => by have h := few_any c s k i m d V hd; rw [decide_eq_false hf] at h; exact h
  clear kB hx0 hW0 hf
  go_enter Try.func8, Try.ntmps8
  go_wp2_with fail
  rw [← HW0.out]
  have e0 := E0.out
  have W0z0 := fz0 W0 E0.out; have W0z1 := fz1 W0 E0.out; have W0z2 := fz2 W0 E0.out; have W0z3 := fz3 W0 E0.out; have W0z4 := fz4 W0 E0.out; have W0z5 := fz5 W0 E0.out
  go_wp2_with (first
    | (go_at_call 28; (with_reducible refine (CF.out _ e0).mono ?_); rintro e w1 ⟨rfl, hx⟩; have Ew1 : Ext W0 w1 := Ext.trans e0 hx; have w1z0 := fz0 w1 Ew1; have w1z1 := fz1 w1 Ew1; have w1z2 := fz2 w1 Ew1; have w1z3 := fz3 w1 Ew1; have w1z4 := fz4 w1 Ew1; have w1z5 := fz5 w1 Ew1; clear hx)
    | (go_at_call 29; (with_reducible refine (HT.out _ Ew1).mono ?_); rintro e w2 ⟨rfl, hx⟩; have Ew2 : Ext W0 w2 := Ext.trans Ew1 hx; clear hx))
  try go_ret
  exact hD.out _ _ ⟨rfl, Ext.trans HX0.out Ew2⟩

set_option maxRecDepth 8000 in
set_option maxHeartbeats 8000000 in
theorem back_no (c s k i m : Int) (d : ByteArray) (at_ x : Int) (w : World) (hd : d.size ≤ 300) (hm : mayReqB c s k i m d.size = false) :
    Calls Try.prog 8 #[.agg #[.int .i64 c, .int .i64 s, .int .i64 k, .int .i64 i, .int .i64 m, .string d], .int .i64 at_, .int .u8 x] w fun e w' => e = .returned (.bool true) ∧ Below w.heap.size w w' := by
  refine hide_post fun D hD => ?_
  obtain ⟨W0, hW0⟩ : ∃ W0, W0 = w.alloc (.cells #[.int .i64 c, .int .i64 s, .int .i64 k, .int .i64 i, .int .i64 m, .string d] 30) := ⟨_, rfl⟩
  have kB : Blk W0 w.heap.size 30 #[.int .i64 c, .int .i64 s, .int .i64 k, .int .i64 i, .int .i64 m, .string d] := by rw [hW0]; exact Blk.new _ _ _
  have hx0 : Ext w W0 := by rw [hW0]; exact Ext.alloc _ _
  have HW0 := Lib.hid hW0
  have HX0 := Lib.hid hx0
  have KB0 := Lib.hid kB
  have fz0 : ∀ V, Ext W0 V → V.cell? ⟨w.heap.size, 0, none⟩ = some (.int .i64 c) := fun V h => (kB.stay h).cell 0
  have fz1 : ∀ V, Ext W0 V → V.cell? ⟨w.heap.size, 1, none⟩ = some (.int .i64 s) := fun V h => (kB.stay h).cell 1
  have fz2 : ∀ V, Ext W0 V → V.cell? ⟨w.heap.size, 2, none⟩ = some (.int .i64 k) := fun V h => (kB.stay h).cell 2
  have fz3 : ∀ V, Ext W0 V → V.cell? ⟨w.heap.size, 3, none⟩ = some (.int .i64 i) := fun V h => (kB.stay h).cell 3
  have fz4 : ∀ V, Ext W0 V → V.cell? ⟨w.heap.size, 4, none⟩ = some (.int .i64 m) := fun V h => (kB.stay h).cell 4
  have fz5 : ∀ V, Ext W0 V → V.cell? ⟨w.heap.size, 5, none⟩ = some (.string d) := fun V h => (kB.stay h).cell 5
  have E0 : Hid (Ext W0 W0) := Ext.refl _
  have HT : Hid (∀ V, Ext W0 V → Calls Try.prog 29 #[] V fun e w' => e = .returned (.bool true) ∧ Ext V w') := fun V _ => told2 V
  have hdm : d.size ≤ maxLen := by unfold maxLen; omega
  have CF : Hid (∀ V, Ext W0 V → Calls Try.prog 28 #[.agg #[.int .i64 c, .int .i64 s, .int .i64 k, .int .i64 i, .int .i64 m, .string d]] V fun e w' => e = .returned (.bool true) ∧ Ext V w') := fun V _ => by have h := few_any c s k i m d V hdm; rw [decide_eq_true hd] at h; exact h
  have CM : Hid (∀ V, Ext W0 V → Calls Try.prog 32 #[.agg #[.int .i64 c, .int .i64 s, .int .i64 k, .int .i64 i, .int .i64 m, .string d]] V fun e w' => e = .returned (.bool false) ∧ Ext V w') := fun V _ => by rw [← hm]; exact mayReq_any c s k i m d V hdm
  have CP : Hid (∀ V, Ext W0 V → Calls Try.prog 31 #[.agg #[.int .i64 c, .int .i64 s, .int .i64 k, .int .i64 i, .int .i64 m, .string d]] V fun e w' => e = .returned (.tuple #[.slice none 0 0, .int .i64 1]) ∧ Ext V w') := fun V _ => putReq_no c s k i m d V hdm hm
  clear kB hx0 hW0 hd hm hdm
  go_enter Try.func8, Try.ntmps8
  go_wp2_with fail
  rw [← HW0.out]
  have e0 := E0.out
  have W0z0 := fz0 W0 E0.out; have W0z1 := fz1 W0 E0.out; have W0z2 := fz2 W0 E0.out; have W0z3 := fz3 W0 E0.out; have W0z4 := fz4 W0 E0.out; have W0z5 := fz5 W0 E0.out
  go_wp2_with (first
    | (go_at_call 28; (with_reducible refine (CF.out _ e0).mono ?_); rintro e w1 ⟨rfl, hx⟩; have Ew1 : Ext W0 w1 := Ext.trans e0 hx; have w1z0 := fz0 w1 Ew1; have w1z1 := fz1 w1 Ew1; have w1z2 := fz2 w1 Ew1; have w1z3 := fz3 w1 Ew1; have w1z4 := fz4 w1 Ew1; have w1z5 := fz5 w1 Ew1; clear hx)
    | (go_at_call 31; (with_reducible refine (CP.out _ Ew1).mono ?_); rintro e w2 ⟨rfl, hx⟩; have Ew2 : Ext W0 w2 := Ext.trans Ew1 hx; have w2z0 := fz0 w2 Ew2; have w2z1 := fz1 w2 Ew2; have w2z2 := fz2 w2 Ew2; have w2z3 := fz3 w2 Ew2; have w2z4 := fz4 w2 Ew2; have w2z5 := fz5 w2 Ew2; clear hx)
    | (go_at_call 29; (with_reducible refine (HT.out _ Ew2).mono ?_); rintro e w3 ⟨rfl, hx⟩; have Ew3 : Ext W0 w3 := Ext.trans Ew2 hx; have w3z0 := fz0 w3 Ew3; have w3z1 := fz1 w3 Ew3; have w3z2 := fz2 w3 Ew3; have w3z3 := fz3 w3 Ew3; have w3z4 := fz4 w3 Ew3; have w3z5 := fz5 w3 Ew3; clear hx)
    | (go_at_call 32; (with_reducible refine (CM.out _ Ew3).mono ?_); rintro e w4 ⟨rfl, hx⟩; have Ew4 : Ext W0 w4 := Ext.trans Ew3 hx; clear hx))
  try go_ret
  exact hD.out _ _ ⟨rfl, Ext.trans HX0.out Ew4⟩

set_option maxRecDepth 8000 in
set_option maxHeartbeats 16000000 in
theorem back_yes (q : Rq) (hq1 : q.may = true) (at_ : Int) (X : UInt8) (w : World) :
    Calls Try.prog 8 #[q.val, .int .i64 at_, .int .u8 (X.toNat : Int)] w fun e w' => e = .returned (.bool true) ∧ Below w.heap.size w w' := by
  obtain ⟨c, s, k, i, m, d, rfl⟩ : ∃ (c s k i m : Nat) (d : ByteArray), q = ⟨c, s, k, i, m, d⟩ := ⟨q.c, q.s, q.k, q.i, q.m, q.d, rfl⟩
  obtain ⟨L, hL⟩ : ∃ L, L = putB ⟨c, s, k, i, m, d⟩ := ⟨_, rfl⟩
  obtain ⟨n, hn⟩ : ∃ n, n = L.length := ⟨_, rfl⟩
  have hlen : L.length ≤ 200 := by rw [hL]; exact putB_len hq1
  have hpos : 0 < n := by rw [hn, hL]; exact putB_pos _
  have hn0 : ¬ (n : Int) = 0 := by omega
  show Calls Try.prog 8 #[.agg #[.int .i64 (c : Int), .int .i64 (s : Int), .int .i64 (k : Int), .int .i64 (i : Int), .int .i64 (m : Int), .string d], .int .i64 at_, .int .u8 (X.toNat : Int)] w _
  refine hide_post fun D hD => ?_
  obtain ⟨W0, hW0⟩ : ∃ W0, W0 = w.alloc (.cells #[.int .i64 (c : Int), .int .i64 (s : Int), .int .i64 (k : Int), .int .i64 (i : Int), .int .i64 (m : Int), .string d] 30) := ⟨_, rfl⟩
  have kB : Blk W0 w.heap.size 30 #[.int .i64 (c : Int), .int .i64 (s : Int), .int .i64 (k : Int), .int .i64 (i : Int), .int .i64 (m : Int), .string d] := by rw [hW0]; exact Blk.new _ _ _
  have hx0 : Ext w W0 := by rw [hW0]; exact Ext.alloc _ _
  have HW0 := Lib.hid hW0
  have HX0 := Lib.hid hx0
  have KB0 := Lib.hid kB
  have fz0 : ∀ V, Ext W0 V → V.cell? ⟨w.heap.size, 0, none⟩ = some (.int .i64 c) := fun V h => (kB.stay h).cell 0
  have fz1 : ∀ V, Ext W0 V → V.cell? ⟨w.heap.size, 1, none⟩ = some (.int .i64 s) := fun V h => (kB.stay h).cell 1
  have fz2 : ∀ V, Ext W0 V → V.cell? ⟨w.heap.size, 2, none⟩ = some (.int .i64 k) := fun V h => (kB.stay h).cell 2
  have fz3 : ∀ V, Ext W0 V → V.cell? ⟨w.heap.size, 3, none⟩ = some (.int .i64 i) := fun V h => (kB.stay h).cell 3
  have fz4 : ∀ V, Ext W0 V → V.cell? ⟨w.heap.size, 4, none⟩ = some (.int .i64 m) := fun V h => (kB.stay h).cell 4
  have fz5 : ∀ V, Ext W0 V → V.cell? ⟨w.heap.size, 5, none⟩ = some (.string d) := fun V h => (kB.stay h).cell 5
  have E0 : Hid (Ext W0 W0) := Ext.refl _
  have HT : Hid (∀ V, Ext W0 V → Calls Try.prog 29 #[] V fun e w' => e = .returned (.bool true) ∧ Ext V w') := fun V _ => told2 V
  have hd3 : d.size ≤ 300 := by have := Rq.may_le hq1; (simp only at this); omega
  have hdm : d.size ≤ maxLen := by unfold maxLen; omega
  have CF : Hid (∀ V, Ext W0 V → Calls Try.prog 28 #[.agg #[.int .i64 (c : Int), .int .i64 (s : Int), .int .i64 (k : Int), .int .i64 (i : Int), .int .i64 (m : Int), .string d]] V fun e w' => e = .returned (.bool true) ∧ Ext V w') := fun V _ => by have h := few_any c s k i m d V hdm; rw [decide_eq_true hd3] at h; exact h
  have CP : Hid (∀ V, Ext W0 V → Calls Try.prog 31 #[.agg #[.int .i64 (c : Int), .int .i64 (s : Int), .int .i64 (k : Int), .int .i64 (i : Int), .int .i64 (m : Int), .string d]] V fun e w' => ∃ g cap, e = .returned (.tuple #[.slice (some ⟨g, 0, none⟩) n cap, .int .i64 0]) ∧ n ≤ cap ∧ Sl Go.Proofs.Ytdbnaflaobncgaa.u8 w' (some ⟨g, 0, none⟩) L ∧ Ext V w') := fun V _ => by rw [hn, hL]; exact putReq_own ⟨c, s, k, i, m, d⟩ V hq1
  have CG : Hid (∀ V g cap, Sl Go.Proofs.Ytdbnaflaobncgaa.u8 V (some ⟨g, 0, none⟩) L → Calls Try.prog 36 #[.slice (some ⟨g, 0, none⟩) n cap] V fun e w' => e = .returned (.tuple #[.agg #[.int .i64 (c : Int), .int .i64 (s : Int), .int .i64 (k : Int), .int .i64 (i : Int), .int .i64 (m : Int), .string d], .int .i64 0]) ∧ Ext V w') := fun V g cap h => by
    rw [hn]
    refine (getReq_any (some ⟨g, 0, none⟩) cap L V h (by omega)).mono ?_
    rintro e w' ⟨q', ec, h1, rfl, h3⟩
    rw [hL] at h1
    obtain ⟨rfl, rfl⟩ := h1.put hq1
    exact ⟨rfl, h3⟩
  have HDET : Hid (∀ {q : Rq} {e : Int} {v : List UInt8}, GotQ v q e → ¬ e = 0 ∨ (v = putB q ∧ q.may = true)) := fun {q e v} h => by
    rcases h with ⟨h1, h2, h3⟩ | ⟨h1, h2, h3⟩
    · exact .inr ⟨h2, h1⟩
    · exact .inl (by omega)
  obtain ⟨p, hp, hp2⟩ : ∃ p : Nat, p < n ∧ (IntKind.u64.wrap at_).tmod (n : Int) = (p : Int) := by
    have hw : 0 ≤ IntKind.u64.wrap at_ := by
      rw [show IntKind.u64.wrap at_ = at_ % 18446744073709551616 by simp [IntKind.wrap, IntKind.bits, IntKind.signed]]; omega
    have e := Int.tmod_eq_emod_of_nonneg (b := (n : Int)) hw
    have e2 := Int.emod_nonneg (IntKind.u64.wrap at_) hn0
    have e3 := Int.emod_lt_of_pos (IntKind.u64.wrap at_) (show (0 : Int) < (n : Int) by omega)
    exact ⟨((IntKind.u64.wrap at_).tmod (n : Int)).toNat, by omega, by omega⟩
  have hpl : p < L.length := by omega
  obtain ⟨y0, hy0⟩ : ∃ y0, y0 = L[p] := ⟨_, rfl⟩
  have HC : Hid (∀ h : p < L.length, L[p]'h = y0) := fun _ => hy0.symm
  have HK := Lib.hid hpl
  have hxo : bits BinOp.xor IntKind.u8 (y0.toNat : Int) (X.toNat : Int) = ((y0 ^^^ X).toNat : Int) := by rw [u8_xor_nat _ _ y0.toNat_lt X.toNat_lt, UInt8.toNat_xor]
  have HSET : Hid (L.set p (y0 ^^^ X) = L ↔ X = 0) := by
    show _ ↔ _
    constructor
    · intro h
      have h2 : (L.set p (y0 ^^^ X))[p]? = L[p]? := by rw [h]
      rw [List.getElem?_set_self (by omega), List.getElem?_eq_getElem hpl, ← hy0] at h2
      injection h2 with h2
      have h3 := congrArg (fun z => y0 ^^^ z) h2
      simp only [← UInt8.xor_assoc, UInt8.xor_self, UInt8.zero_xor] at h3
      exact h3
    · rintro rfl
      rw [UInt8.xor_zero, hy0]
      exact List.set_getElem_self hpl
  have HN := Lib.hid hn
  have HLEN := Lib.hid hlen
  have HLL := Lib.hid hL
  have HPN : Hid (p < n) := hp
  clear hy0 kB hx0 hW0 hd3 hdm hn hlen hL hpl
  generalize y0 ^^^ X = y at *
  have hwn : IntKind.u64.wrap (n : Int) = (n : Int) := wrap_u64I n (by have := HN.out; have := HLEN.out; omega)
  have h200 : ¬ (200 : Int) < (n : Int) := by have := HN.out; have := HLEN.out; omega
  go_enter Try.func8, Try.ntmps8
  go_wp2_with fail
  rw [← HW0.out]
  have e0 := E0.out
  have W0z0 := fz0 W0 E0.out; have W0z1 := fz1 W0 E0.out; have W0z2 := fz2 W0 E0.out; have W0z3 := fz3 W0 E0.out; have W0z4 := fz4 W0 E0.out; have W0z5 := fz5 W0 E0.out
  go_wp2_with (first
    | (go_at_call 28; (with_reducible refine (CF.out _ e0).mono ?_); rintro e w1 ⟨rfl, hx⟩; have Ew1 : Ext W0 w1 := Ext.trans e0 hx; have w1z0 := fz0 w1 Ew1; have w1z1 := fz1 w1 Ew1; have w1z2 := fz2 w1 Ew1; have w1z3 := fz3 w1 Ew1; have w1z4 := fz4 w1 Ew1; have w1z5 := fz5 w1 Ew1; clear hx)
    | (go_at_call 31; (with_reducible refine (CP.out _ Ew1).mono ?_); rintro e w2 ⟨g1, cap1, rfl, hcap, hs1, hx⟩; have Ew2 : Ext W0 w2 := Ext.trans Ew1 hx; have HS1 := Lib.hid hs1; have HCAP := Lib.hid hcap; clear hs1 hcap; clear hx)
    | (go_at_call 36; (with_reducible refine (CG.out _ _ _ HS1.out).mono ?_); rintro e w3 ⟨rfl, hx⟩; have EQ : Hid (Ext W0 (w3.alloc (.cells #[.int .i64 (c : Int), .int .i64 (s : Int), .int .i64 (k : Int), .int .i64 (i : Int), .int .i64 (m : Int), .string d] 30)) ∧ Ext w2 (w3.alloc (.cells #[.int .i64 (c : Int), .int .i64 (s : Int), .int .i64 (k : Int), .int .i64 (i : Int), .int .i64 (m : Int), .string d] 30))) := ⟨Ext.trans Ew2 (Ext.trans hx (Ext.alloc _ _)), Ext.trans hx (Ext.alloc _ _)⟩; have HM : Hid (World.ownsRow ((w3.alloc (.cells #[.int .i64 (c : Int), .int .i64 (s : Int), .int .i64 (k : Int), .int .i64 (i : Int), .int .i64 (m : Int), .string d] 30)).alloc (.cells #[] 5)) (w3.heap.size + 1) 5 1 (.slice (some ⟨w3.heap.size + 1, 0, none⟩) 0 0) 0 [] ∧ Ext (w3.alloc (.cells #[.int .i64 (c : Int), .int .i64 (s : Int), .int .i64 (k : Int), .int .i64 (i : Int), .int .i64 (m : Int), .string d] 30)) ((w3.alloc (.cells #[.int .i64 (c : Int), .int .i64 (s : Int), .int .i64 (k : Int), .int .i64 (i : Int), .int .i64 (m : Int), .string d] 30)).alloc (.cells #[] 5))) := ⟨by (have h := World.ownsRow_made (base := w3.heap.size + 1) (e := 5) (size := 1) (w3.alloc (.cells #[.int .i64 (c : Int), .int .i64 (s : Int), .int .i64 (k : Int), .int .i64 (i : Int), .int .i64 (m : Int), .string d] 30)) #[] 0 (by simp) (Nat.zero_le _) rfl); (rw [show (w3.alloc (.cells #[.int .i64 (c : Int), .int .i64 (s : Int), .int .i64 (k : Int), .int .i64 (i : Int), .int .i64 (m : Int), .string d] 30)).heap.size = w3.heap.size + 1 by simp] at h); exact h, Ext.alloc _ _⟩; have HSM : Hid (Sl Go.Proofs.Ytdbnaflaobncgaa.u8 ((w3.alloc (.cells #[.int .i64 (c : Int), .int .i64 (s : Int), .int .i64 (k : Int), .int .i64 (i : Int), .int .i64 (m : Int), .string d] 30)).alloc (.cells #[] 5)) (some ⟨g1, 0, none⟩) L) := HS1.out.stay (Ext.trans EQ.out.2 HM.out.2); have q0 := fz0 _ EQ.out.1; have r0 := (Blk.new w3 30 #[.int .i64 (c : Int), .int .i64 (s : Int), .int .i64 (k : Int), .int .i64 (i : Int), .int .i64 (m : Int), .string d]).cell 0; have q1 := fz1 _ EQ.out.1; have r1 := (Blk.new w3 30 #[.int .i64 (c : Int), .int .i64 (s : Int), .int .i64 (k : Int), .int .i64 (i : Int), .int .i64 (m : Int), .string d]).cell 1; have q2 := fz2 _ EQ.out.1; have r2 := (Blk.new w3 30 #[.int .i64 (c : Int), .int .i64 (s : Int), .int .i64 (k : Int), .int .i64 (i : Int), .int .i64 (m : Int), .string d]).cell 2; have q3 := fz3 _ EQ.out.1; have r3 := (Blk.new w3 30 #[.int .i64 (c : Int), .int .i64 (s : Int), .int .i64 (k : Int), .int .i64 (i : Int), .int .i64 (m : Int), .string d]).cell 3; have q4 := fz4 _ EQ.out.1; have r4 := (Blk.new w3 30 #[.int .i64 (c : Int), .int .i64 (s : Int), .int .i64 (k : Int), .int .i64 (i : Int), .int .i64 (m : Int), .string d]).cell 4; have q5 := fz5 _ EQ.out.1; have r5 := (Blk.new w3 30 #[.int .i64 (c : Int), .int .i64 (s : Int), .int .i64 (k : Int), .int .i64 (i : Int), .int .i64 (m : Int), .string d]).cell 5; simp at q0 r0 q1 r1 q2 r2 q3 r3 q4 r4 q5 r5; clear hx)
    | (at_builtin; (refine wpList_append_list rfl _ _ 54 rfl (w3.heap.size + 1) 5 (.int .u8 0) 1 Try.underlying54 info_byte rfl (by omega) (.slice (some ⟨w3.heap.size + 1, 0, none⟩) 0 0) 0 [] rfl HM.out.1 Go.Proofs.Ytdbnaflaobncgaa.u8 (some ⟨g1, 0, none⟩) L n cap1 HN.out rfl HSM.out (fun _ => rfl) (by have := HN.out; have := HLEN.out; omega) (by simp) ?_; intro v' w' h1 h2 h3; rw [Nat.zero_add, List.nil_append] at h1; have H1 := Lib.hid h1; have H2 := Lib.hid h2; clear h1 h2 h3; obtain ⟨g, c2, cur, e', hgb, KB, hck, hc2⟩ := own_at (k := p) H1.out HK.out; rw [← HN.out] at e'; subst e'; have ck := KB.cell p; rw [hck] at ck; replace ck : w'.cell? ⟨g, p, none⟩ = some (.int .u8 (y0.toNat : Int)) := ck.trans (by (show some (Go.Proofs.Ytdbnaflaobncgaa.u8 (L[p]'HK.out)) = _); rw [HC.out]; rfl); have fk := KB.frozen p; clear hck)))
  have h1' := H1.out
  rw [HN.out] at h1'
  have ho := own_set h1' HK.out y
  clear h1'
  obtain ⟨A', c', e, hsl⟩ := own_view ho
  injection e with e1 e2 e3
  subst e1
  clear e2 e3 c'
  obtain ⟨W4, hW4⟩ : ∃ W4, W4 = w'.setCell ⟨g, p, none⟩ (.int .u8 (y.toNat : Int)) := ⟨_, rfl⟩
  change Sl Go.Proofs.Ytdbnaflaobncgaa.u8 (w'.setCell ⟨g, p, none⟩ (.int .u8 (y.toNat : Int))) _ _ at hsl
  rw [← hW4] at hsl
  have hx4 : Ext (w3.alloc (.cells #[.int .i64 (c : Int), .int .i64 (s : Int), .int .i64 (k : Int), .int .i64 (i : Int), .int .i64 (m : Int), .string d] 30)) W4 := by
    rw [hW4]
    show Below _ _ _
    rw [show (w3.alloc (.cells #[.int .i64 (c : Int), .int .i64 (s : Int), .int .i64 (k : Int), .int .i64 (i : Int), .int .i64 (m : Int), .string d] 30)).heap.size = w3.heap.size + 1 by simp]
    refine Below.setCell ?_ hgb _
    have h2 : Below (w3.heap.size + 1) (w3.alloc (.cells #[.int .i64 (c : Int), .int .i64 (s : Int), .int .i64 (k : Int), .int .i64 (i : Int), .int .i64 (m : Int), .string d] 30)) ((w3.alloc (.cells #[.int .i64 (c : Int), .int .i64 (s : Int), .int .i64 (k : Int), .int .i64 (i : Int), .int .i64 (m : Int), .string d] 30)).alloc (.cells #[] 5)) := by have h := HM.out.2; (have h' : Below (w3.alloc (.cells #[.int .i64 (c : Int), .int .i64 (s : Int), .int .i64 (k : Int), .int .i64 (i : Int), .int .i64 (m : Int), .string d] 30)).heap.size _ _ := h); (rw [show (w3.alloc (.cells #[.int .i64 (c : Int), .int .i64 (s : Int), .int .i64 (k : Int), .int .i64 (i : Int), .int .i64 (m : Int), .string d] 30)).heap.size = w3.heap.size + 1 by simp] at h'); exact h'
    exact h2.grown (row := some (w3.heap.size + 1)) H2.out (by simp) (fun k hk => by injection hk with hk; omega)
  rw [← hW4]
  have HX4 : Hid (Ext W0 W4 ∧ Ext w2 W4) := ⟨Ext.trans EQ.out.1 hx4, Ext.trans EQ.out.2 hx4⟩
  have KR : Hid (Blk W4 w3.heap.size 30 #[.int .i64 (c : Int), .int .i64 (s : Int), .int .i64 (k : Int), .int .i64 (i : Int), .int .i64 (m : Int), .string d]) := (Blk.new w3 30 #[.int .i64 (c : Int), .int .i64 (s : Int), .int .i64 (k : Int), .int .i64 (i : Int), .int .i64 (m : Int), .string d]).stay hx4
  have HSL := Lib.hid hsl
  have hS1 : Hid (Sl Go.Proofs.Ytdbnaflaobncgaa.u8 W4 (some ⟨g1, 0, none⟩) L) := HS1.out.stay HX4.out.2
  clear hsl hx4 hW4 ho ck fk KB H1 H2 HM HSM EQ hgb hc2
  have CG1 : Hid (∀ V, Ext W4 V → Calls Try.prog 36 #[.slice (some ⟨g, 0, none⟩) n c2] V fun e w' => ∃ (sc ss sk si sm : Nat) (sd : ByteArray) (se : Int), GotQ (L.set p y) ⟨sc, ss, sk, si, sm, sd⟩ se ∧ e = .returned (.tuple #[.agg #[.int .i64 (sc : Int), .int .i64 (ss : Int), .int .i64 (sk : Int), .int .i64 (si : Int), .int .i64 (sm : Int), .string sd], .int .i64 se]) ∧ Ext V w') := fun V hV => by
    have h := getReq_any (some ⟨g, 0, none⟩) c2 (L.set p y) V (HSL.out.stay hV) (by rw [List.length_set]; have := HLEN.out; omega)
    rw [List.length_set, ← HN.out] at h
    refine h.mono ?_
    rintro e w' ⟨⟨yc, ys, yk, yi, ym, yd⟩, ec, h1, h2, h3⟩
    exact ⟨yc, ys, yk, yi, ym, yd, ec, h1, h2, h3⟩
  have CG2 : Hid (∀ V, Ext W4 V → Calls Try.prog 36 #[.slice (some ⟨g1, 0, none⟩) p cap1] V fun e w' => ∃ (zc zs zk zi zm : Nat) (zd : ByteArray), e = .returned (.tuple #[.agg #[.int .i64 (zc : Int), .int .i64 (zs : Int), .int .i64 (zk : Int), .int .i64 (zi : Int), .int .i64 (zm : Int), .string zd], .int .i64 2]) ∧ Ext V w') := fun V hV => by
    have h := getReq_any (some ⟨g1, 0, none⟩) cap1 (L.take p) V ((hS1.out.stay hV).take' p) (by rw [List.length_take]; have := HLEN.out; omega)
    rw [List.length_take, Nat.min_eq_left (Nat.le_of_lt HK.out)] at h
    refine h.mono ?_
    rintro e w' ⟨⟨yc, ys, yk, yi, ym, yd⟩, ec, h1, h2, h3⟩
    have hk := HK.out
    rw [HLL.out] at h1 hk
    obtain rfl := h1.cut hq1 hk
    exact ⟨yc, ys, yk, yi, ym, yd, h2, h3⟩
  obtain ⟨tb, htb⟩ : ∃ z, z = str (L.set p y) := ⟨_, rfl⟩
  have CR1 : Hid (∀ V (yc ys yk yi ym : Nat) (yd : ByteArray) (ec : Int), GotQ (L.set p y) ⟨yc, ys, yk, yi, ym, yd⟩ ec → Calls Try.prog 37 #[.string tb] V fun e w' => e = .returned (.tuple #[.agg #[.int .i64 (yc : Int), .int .i64 (ys : Int), .int .i64 (yk : Int), .int .i64 (yi : Int), .int .i64 (ym : Int), .string yd], .int .i64 ec]) ∧ Ext V w') := fun V yc ys yk yi ym yd ec h => by
    rw [htb]
    refine (refGetReq_any (L.set p y) V (by rw [List.length_set]; have := HLEN.out; omega)).mono ?_
    rintro e w' ⟨q', ec', h1, h2, h3⟩
    obtain ⟨rfl, rfl⟩ := GotQ.det h h1
    exact ⟨h2, h3⟩
  have HCV : Hid (∀ V, Ext W4 V → (convert 54 9 (.slice (some ⟨g, 0, none⟩) n c2)).run Try.prog V = .ok (.string tb) V) := fun V hV => by
    have h := run_str (P := Try.prog) (w := V) 54 9 5 (some ⟨g, 0, none⟩) (L.set p y) c2 Try.underlying54 Try.underlying5 Try.underlying9 (HSL.out.stay hV)
    rw [List.length_set, ← HN.out] at h
    rw [htb]
    exact h
  have hpc : (p : Int) ≤ (cap1 : Int) := by have := HPN.out; have := HCAP.out; omega
  have hpc' : p ≤ cap1 := by have := HPN.out; have := HCAP.out; omega
  have hpc0 : ¬ (cap1 : Int) < (p : Int) := by omega
  have E4 : Hid (Ext W4 W4) := Ext.refl _
  clear htb
  go_wp2_with (first
    | (go_at_call 36; (with_reducible refine (CG1.out _ E4.out).mono ?_); rintro e w5 ⟨sc, ss, sk, si, sm, sd, se, hg, rfl, hx⟩; have HG1 := Lib.hid hg; have E5 : Hid (Ext W4 (w5.alloc (.cells #[.int .i64 (sc : Int), .int .i64 (ss : Int), .int .i64 (sk : Int), .int .i64 (si : Int), .int .i64 (sm : Int), .string sd] 30))) := Ext.trans hx (Ext.alloc _ _); have hcv5 := HCV.out _ E5.out; clear hg hx)
    | (go_at_call 37; (with_reducible refine (CR1.out _ _ _ _ _ _ _ _ HG1.out).mono ?_); rintro e w6 ⟨rfl, hx⟩; have E6 : Hid (Ext W4 (w6.alloc (.cells #[.int .i64 (sc : Int), .int .i64 (ss : Int), .int .i64 (sk : Int), .int .i64 (si : Int), .int .i64 (sm : Int), .string sd] 30))) := Ext.trans E5.out (Ext.trans hx (Ext.alloc _ _)); have K6 : Hid (Ext (w5.alloc (.cells #[.int .i64 (sc : Int), .int .i64 (ss : Int), .int .i64 (sk : Int), .int .i64 (si : Int), .int .i64 (sm : Int), .string sd] 30)) (w6.alloc (.cells #[.int .i64 (sc : Int), .int .i64 (ss : Int), .int .i64 (sk : Int), .int .i64 (si : Int), .int .i64 (sm : Int), .string sd] 30))) := Ext.trans hx (Ext.alloc _ _); clear hx)
    | (go_at_call 36; (with_reducible refine (CG2.out _ E6.out).mono ?_); rintro e w7 ⟨zc, zs, zk, zi, zm, zd, rfl, hx⟩; have E7 : Hid (Ext W4 (w7.alloc (.cells #[.int .i64 (zc : Int), .int .i64 (zs : Int), .int .i64 (zk : Int), .int .i64 (zi : Int), .int .i64 (zm : Int), .string zd] 30))) := Ext.trans E6.out (Ext.trans hx (Ext.alloc _ _)); have K7 : Hid (Ext (w5.alloc (.cells #[.int .i64 (sc : Int), .int .i64 (ss : Int), .int .i64 (sk : Int), .int .i64 (si : Int), .int .i64 (sm : Int), .string sd] 30)) (w7.alloc (.cells #[.int .i64 (zc : Int), .int .i64 (zs : Int), .int .i64 (zk : Int), .int .i64 (zi : Int), .int .i64 (zm : Int), .string zd] 30)) ∧ Ext (w6.alloc (.cells #[.int .i64 (sc : Int), .int .i64 (ss : Int), .int .i64 (sk : Int), .int .i64 (si : Int), .int .i64 (sm : Int), .string sd] 30)) (w7.alloc (.cells #[.int .i64 (zc : Int), .int .i64 (zs : Int), .int .i64 (zk : Int), .int .i64 (zi : Int), .int .i64 (zm : Int), .string zd] 30))) := ⟨Ext.trans K6.out (Ext.trans hx (Ext.alloc _ _)), Ext.trans hx (Ext.alloc _ _)⟩; clear hx))
  have HS : Hid (se = 0 → ¬ X = 0 → ¬ (sc = c ∧ ss = s ∧ sk = k ∧ si = i ∧ sm = m ∧ sd = d)) := fun h0 hX ⟨e1, e2, e3, e4, e5, e6⟩ => by
    rcases HDET.out HG1.out with h | ⟨h1, h2⟩
    · exact h h0
    · subst e1 e2 e3 e4 e5 e6
      exact hX (HSET.out.1 (by rw [h1, HLL.out]))
  by_cases hX : X = 0
  · have hX2 : X.toNat = 0 := by rw [hX]; rfl
    go_wp2_with (go_at_call 29; (with_reducible refine (HT.out _ (Ext.trans HX4.out.1 E7.out)).mono ?_); rintro e w8 ⟨rfl, hx⟩; have E8 : Hid (Ext W4 w8) := Ext.trans E7.out hx; have ky := (Blk.new w5 30 #[.int .i64 (sc : Int), .int .i64 (ss : Int), .int .i64 (sk : Int), .int .i64 (si : Int), .int .i64 (sm : Int), .string sd]).stay (Ext.trans K7.out.1 hx); have kz := (Blk.new w6 30 #[.int .i64 (sc : Int), .int .i64 (ss : Int), .int .i64 (sk : Int), .int .i64 (si : Int), .int .i64 (sm : Int), .string sd]).stay (Ext.trans K7.out.2 hx); have ky0 := ky.cell 0; have kz0 := kz.cell 0; have kq0 := fz0 _ (Ext.trans HX4.out.1 E8.out); have ky1 := ky.cell 1; have kz1 := kz.cell 1; have kq1 := fz1 _ (Ext.trans HX4.out.1 E8.out); have ky2 := ky.cell 2; have kz2 := kz.cell 2; have kq2 := fz2 _ (Ext.trans HX4.out.1 E8.out); have ky3 := ky.cell 3; have kz3 := kz.cell 3; have kq3 := fz3 _ (Ext.trans HX4.out.1 E8.out); have ky4 := ky.cell 4; have kz4 := kz.cell 4; have kq4 := fz4 _ (Ext.trans HX4.out.1 E8.out); have ky5 := ky.cell 5; have kz5 := kz.cell 5; have kq5 := fz5 _ (Ext.trans HX4.out.1 E8.out); simp at ky0 kz0 kq0 ky1 kz1 kq1 ky2 kz2 kq2 ky3 kz3 kq3 ky4 kz4 kq4 ky5 kz5 kq5; clear hx ky kz)
    try go_ret
    exact hD.out _ _ ⟨rfl, Ext.trans HX0.out (Ext.trans HX4.out.1 E8.out)⟩
  · have hX2 : ¬ X.toNat = 0 := fun e => hX (UInt8.toNat_inj.1 e)
    by_cases hs0 : se = 0
    · subst hs0
      go_wp2_with (go_at_call 29; (with_reducible refine (HT.out _ (Ext.trans HX4.out.1 E7.out)).mono ?_); rintro e w8 ⟨rfl, hx⟩; have E8 : Hid (Ext W4 w8) := Ext.trans E7.out hx; have ky := (Blk.new w5 30 #[.int .i64 (sc : Int), .int .i64 (ss : Int), .int .i64 (sk : Int), .int .i64 (si : Int), .int .i64 (sm : Int), .string sd]).stay (Ext.trans K7.out.1 hx); have kz := (Blk.new w6 30 #[.int .i64 (sc : Int), .int .i64 (ss : Int), .int .i64 (sk : Int), .int .i64 (si : Int), .int .i64 (sm : Int), .string sd]).stay (Ext.trans K7.out.2 hx); have ky0 := ky.cell 0; have kz0 := kz.cell 0; have kq0 := fz0 _ (Ext.trans HX4.out.1 E8.out); have ky1 := ky.cell 1; have kz1 := kz.cell 1; have kq1 := fz1 _ (Ext.trans HX4.out.1 E8.out); have ky2 := ky.cell 2; have kz2 := kz.cell 2; have kq2 := fz2 _ (Ext.trans HX4.out.1 E8.out); have ky3 := ky.cell 3; have kz3 := kz.cell 3; have kq3 := fz3 _ (Ext.trans HX4.out.1 E8.out); have ky4 := ky.cell 4; have kz4 := kz.cell 4; have kq4 := fz4 _ (Ext.trans HX4.out.1 E8.out); have ky5 := ky.cell 5; have kz5 := kz.cell 5; have kq5 := fz5 _ (Ext.trans HX4.out.1 E8.out); simp at ky0 kz0 kq0 ky1 kz1 kq1 ky2 kz2 kq2 ky3 kz3 kq3 ky4 kz4 kq4 ky5 kz5 kq5; clear hx ky kz)
      all_goals (try go_ret)
      all_goals first
        | exact hD.out _ _ ⟨rfl, Ext.trans HX0.out (Ext.trans HX4.out.1 E8.out)⟩
        | (rename_i h1 h2 h3 h4 h5 h6; exact absurd ⟨by omega, by omega, by omega, by omega, by omega, Go.WideShapes.bytes_inj (by rw [← ByteArray.toList_eq, ← ByteArray.toList_eq]; exact h6)⟩ (HS.out trivial hX))
    · go_wp2_with (go_at_call 29; (with_reducible refine (HT.out _ (Ext.trans HX4.out.1 E7.out)).mono ?_); rintro e w8 ⟨rfl, hx⟩; have E8 : Hid (Ext W4 w8) := Ext.trans E7.out hx; have ky := (Blk.new w5 30 #[.int .i64 (sc : Int), .int .i64 (ss : Int), .int .i64 (sk : Int), .int .i64 (si : Int), .int .i64 (sm : Int), .string sd]).stay (Ext.trans K7.out.1 hx); have kz := (Blk.new w6 30 #[.int .i64 (sc : Int), .int .i64 (ss : Int), .int .i64 (sk : Int), .int .i64 (si : Int), .int .i64 (sm : Int), .string sd]).stay (Ext.trans K7.out.2 hx); have ky0 := ky.cell 0; have kz0 := kz.cell 0; have kq0 := fz0 _ (Ext.trans HX4.out.1 E8.out); have ky1 := ky.cell 1; have kz1 := kz.cell 1; have kq1 := fz1 _ (Ext.trans HX4.out.1 E8.out); have ky2 := ky.cell 2; have kz2 := kz.cell 2; have kq2 := fz2 _ (Ext.trans HX4.out.1 E8.out); have ky3 := ky.cell 3; have kz3 := kz.cell 3; have kq3 := fz3 _ (Ext.trans HX4.out.1 E8.out); have ky4 := ky.cell 4; have kz4 := kz.cell 4; have kq4 := fz4 _ (Ext.trans HX4.out.1 E8.out); have ky5 := ky.cell 5; have kz5 := kz.cell 5; have kq5 := fz5 _ (Ext.trans HX4.out.1 E8.out); simp at ky0 kz0 kq0 ky1 kz1 kq1 ky2 kz2 kq2 ky3 kz3 kq3 ky4 kz4 kq4 ky5 kz5 kq5; clear hx ky kz)
      try go_ret
      exact hD.out _ _ ⟨rfl, Ext.trans HX0.out (Ext.trans HX4.out.1 E8.out)⟩

theorem walk_itemBack (c s k i m : Int) (d : ByteArray) (at_ x : Int) (w : World) (hd : d.size ≤ maxLen) (hx : 0 ≤ x ∧ x ≤ 255) :
    Calls Try.prog 8 #[.agg #[.int .i64 c, .int .i64 s, .int .i64 k, .int .i64 i, .int .i64 m, .string d], .int .i64 at_, .int .u8 x] w fun e w' => e = .returned (.bool true) ∧ Below w.heap.size w w' := by
  by_cases hf : d.size ≤ 300
  · cases hm : mayReqB c s k i m d.size with
    | false => exact back_no c s k i m d at_ x w hf hm
    | true =>
      obtain ⟨q, hq, e⟩ := rq_of hm
      obtain ⟨X, rfl⟩ : ∃ X : UInt8, x = (X.toNat : Int) := ⟨UInt8.ofNat x.toNat, by rw [UInt8.toNat_ofNat']; omega⟩
      rw [e]
      exact back_yes q hq at_ X w
  · exact back_few c s k i m d at_ x w hd hf

set_option maxRecDepth 100000 in
theorem law_itemBack {H : Type} {enc : TypeId × Value → H} (W : World) (base : Nat) (args : Array Value) (ds : List (DataW H)) (p : List MemPlace)
    (hval : ∀ (j : Nat) t v, Try.f8.params[j]? = some t → args[j]? = some v → Value.okWide Try.prog W .any base t v)
    (hA : DataW.TrodAll enc Try.prog W 0 (fun _ => true) true Try.f8.params.toList args.toList ds p) :
    Calls Try.prog 8 args W fun e W' => e = .returned (.bool true) ∧ Below W.heap.size W W' := by
  rw [Try.params8] at hA hval
  obtain ⟨v0, vs0, d0, ds0, p0, q0, hargs, rfl, rfl, h0, r0⟩ := trodAll_cons hA
  obtain ⟨v1, vs1, d1, ds1, p1, q1, rfl, rfl, rfl, h1, r1⟩ := trodAll_cons r0
  obtain ⟨v2, vs2, d2, ds2, p2, q2, rfl, rfl, rfl, h2, r2⟩ := trodAll_cons r1
  obtain ⟨rfl, rfl, rfl⟩ := trodAll_nil r2
  obtain rfl : args = #[v0, v1, v2] := by cases args; simp_all
  obtain ⟨c0, s0, k0, i0, m0, x0, rfl, wc0, ws0, wk0, wi0, wm0, z0⟩ := open_req (hval 0 30 v0 rfl rfl) h0
  obtain ⟨a1, rfl, rfl, rfl, w1⟩ := open_int Try.underlying3 (hval 1 3 v1 rfl rfl) h1
  obtain ⟨a2, rfl, rfl, rfl, w2⟩ := open_int Try.underlying5 (hval 2 5 v2 rfl rfl) h2
  exact walk_itemBack c0 s0 k0 i0 m0 x0 a1 a2 W z0 (bounds_u8 w2)

end Go.Proofs.Ytdbnaflaobncgaa
