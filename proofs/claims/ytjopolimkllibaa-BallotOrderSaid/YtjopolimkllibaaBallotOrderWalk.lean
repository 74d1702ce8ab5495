/-
  The walk of the law BallotOrder.
-/
import Derived.Test.YtjopolimkllibaaBallotAsksWalk
namespace Go.Proofs.Ytjopolimkllibaa
set_option linter.unusedVariables false
set_option linter.unusedSimpArgs false
open Go.RowKit Go.ChangeShapes Go.WideShapes Go.Joins Go.Deep

theorem next_gt (r n k : Int) : cmpBal r n (nextR r n k) k = -1 ∧ cmpBal (nextR r n k) k r n = 1 := by
  unfold cmpBal nextR
  by_cases h : k ≤ n
  · rw [if_pos h, if_pos (by omega), if_neg (by omega), if_pos (by omega)]; exact ⟨rfl, rfl⟩
  · rw [if_neg h, if_neg (by omega), if_neg (by omega), if_pos (by omega), if_neg (by omega), if_neg (by omega), if_neg (by omega), if_pos (by omega)]; exact ⟨rfl, rfl⟩
theorem next_between (r n k c : Int) (h : ¬ cmpBal c k r n ≤ 0) : 0 ≤ cmpBal c k (nextR r n k) k := by
  unfold cmpBal at *
  unfold nextR
  grind
theorem next_top (r n k : Int) (h : mayBal r n = true) (hk : 0 ≤ k ∧ k < 5) (hb : nextB r n k = false) : r = 1099511627776 := by
  unfold nextB at hb
  rw [h, Bool.true_and] at hb
  unfold mayBal at h hb
  have h1 := of_decide_eq_true h
  have h2 := of_decide_eq_false hb
  unfold nextR at h2
  split at h2 <;> omega

set_option maxHeartbeats 8000000 in
theorem walk_ballotOrder (ar an node cr cn : Int) (w : World) :
    Calls Try.prog 4 #[.agg #[.int .i64 ar, .int .i64 an], .int .i64 node, .agg #[.int .i64 cr, .int .i64 cn]] w fun e w' => e = .returned (.bool true) ∧ Below w.heap.size w w' := by
  obtain ⟨k0, k1⟩ := umod_bd node 5 (by omega) (by omega)
  obtain ⟨k, hk⟩ : ∃ k, wrap64 ((IntKind.u64.wrap node).tmod 5) = k := ⟨_, rfl⟩
  rw [hk] at k0 k1
  refine hide_post fun D hD => ?_
  obtain ⟨w0, hw0⟩ : ∃ w0, w0 = (w.alloc (.cells #[.int .i64 ar, .int .i64 an] 23)).alloc (.cells #[.int .i64 cr, .int .i64 cn] 23) := ⟨_, rfl⟩
  have K0 : Hid (Blk w0 w.heap.size 23 #[.int .i64 ar, .int .i64 an]) := by show Blk _ _ _ _; rw [hw0]; exact (Blk.new _ _ _).alloc _
  have K1 : Hid (Blk w0 (w.heap.size + 1) 23 #[.int .i64 cr, .int .i64 cn]) := by show Blk _ _ _ _; rw [hw0]; exact Blk.new' _ _ _ _ (by simp)
  have HB0 : Hid (Ext w w0) := by show Below _ _ _; rw [hw0]; exact ((Below.refl _ _).alloc (Nat.le_refl _) _).alloc (by simp) _
  have HW0 := Lib.hid hw0
  clear hw0
  have HTO : Hid (∀ W, Calls Try.prog 17 #[] W fun e w' => e = .returned (.bool true) ∧ Ext W w') := told_bal
  have HK := Lib.hid hk
  clear hk
  cases hm : mayBal ar an
  · have HM : Hid (∀ W, Calls Try.prog 18 #[.agg #[.int .i64 ar, .int .i64 an]] W fun e w' => e = .returned (.bool false) ∧ Ext W w') := fun W => by rw [← hm]; exact mayBal_any ar an W
    have HN : Hid (∀ W, Calls Try.prog 15 #[.agg #[.int .i64 ar, .int .i64 an], .int .i64 k] W fun e w' => e = .returned (.tuple #[.agg #[.int .i64 0, .int .i64 0], .bool false]) ∧ Ext W w') := fun W => (next_any ar an k false (by unfold nextB; rw [hm]; rfl) W).mono fun _ _ ⟨he, h⟩ => ⟨by rw [he]; rfl, h⟩
    clear hm
    go_enter Try.func4, Try.ntmps4
    go_wp2_with (first
      | (go_at_call 18; rw [← HW0.out, HK.out]; (with_reducible refine (HM.out _).mono ?_); rintro e w1 ⟨rfl, hx⟩; have a0 := (K0.out.stay hx).cell 0; have a1 := (K0.out.stay hx).cell 1; have X1 := Lib.hid hx; clear hx)
      | (go_at_call 15; (with_reducible refine (HN.out _).mono ?_); rintro e w2 ⟨rfl, hx⟩; have X2 := Lib.hid hx; clear hx)
      | (go_at_call 17; (with_reducible refine (HTO.out _).mono ?_); rintro e w3 ⟨rfl, hx⟩; have X3 := Lib.hid hx; clear hx))
    try go_ret
    exact hD.out _ _ ⟨rfl, Ext.trans (Ext.trans (Ext.trans (Ext.trans HB0.out X1.out) X2.out) (Ext.alloc _ _)) X3.out⟩
  · have HM : Hid (∀ W, Calls Try.prog 18 #[.agg #[.int .i64 ar, .int .i64 an]] W fun e w' => e = .returned (.bool true) ∧ Ext W w') := fun W => by rw [← hm]; exact mayBal_any ar an W
    cases hb : nextB ar an k
    · have HN : Hid (∀ W, Calls Try.prog 15 #[.agg #[.int .i64 ar, .int .i64 an], .int .i64 k] W fun e w' => e = .returned (.tuple #[.agg #[.int .i64 0, .int .i64 0], .bool false]) ∧ Ext W w') := fun W => (next_any ar an k false hb W).mono fun _ _ ⟨he, h⟩ => ⟨by rw [he]; rfl, h⟩
      obtain rfl := next_top ar an k hm ⟨k0, k1⟩ hb
      clear hm hb
      go_enter Try.func4, Try.ntmps4
      go_wp2_with (first
        | (go_at_call 18; rw [← HW0.out, HK.out]; (with_reducible refine (HM.out _).mono ?_); rintro e w1 ⟨rfl, hx⟩; have a0 := (K0.out.stay hx).cell 0; have a1 := (K0.out.stay hx).cell 1; have X1 := Lib.hid hx; clear hx)
        | (go_at_call 15; (with_reducible refine (HN.out _).mono ?_); rintro e w2 ⟨rfl, hx⟩; have X2 := Lib.hid hx; clear hx)
        | (go_at_call 17; (with_reducible refine (HTO.out _).mono ?_); rintro e w3 ⟨rfl, hx⟩; have a0 := ((((K0.out.stay X1.out).stay X2.out).alloc _).stay hx).cell 0; have X3 := Lib.hid hx; clear hx))
      try go_ret
      exact hD.out _ _ ⟨rfl, Ext.trans (Ext.trans (Ext.trans (Ext.trans HB0.out X1.out) X2.out) (Ext.alloc _ _)) X3.out⟩
    · obtain ⟨R, hR⟩ : ∃ R, nextR ar an k = R := ⟨_, rfl⟩
      have HN : Hid (∀ W, Calls Try.prog 15 #[.agg #[.int .i64 ar, .int .i64 an], .int .i64 k] W fun e w' => e = .returned (.tuple #[.agg #[.int .i64 R, .int .i64 k], .bool true]) ∧ Ext W w') := fun W => (next_any ar an k true hb W).mono fun _ _ ⟨he, h⟩ => ⟨by rw [he, hR]; rfl, h⟩
      obtain ⟨g1, g2⟩ := next_gt ar an k
      have g3 := next_between ar an k cr
      have hmx : mayBal R k = true := by unfold nextB at hb; rw [hm, hR] at hb; simpa using hb
      rw [hR] at g1 g2 g3
      have HMX : Hid (∀ W, Calls Try.prog 18 #[.agg #[.int .i64 R, .int .i64 k]] W fun e w' => e = .returned (.bool true) ∧ Ext W w') := fun W => by rw [← hmx]; exact mayBal_any R k W
      have HC1 : Hid (∀ W, Calls Try.prog 20 #[.agg #[.int .i64 ar, .int .i64 an], .agg #[.int .i64 R, .int .i64 k]] W fun e w' => e = .returned (.int .i64 (-1)) ∧ Ext W w') := fun W => by rw [← g1]; exact balCmp_any _ _ _ _ W
      have HC2 : Hid (∀ W, Calls Try.prog 20 #[.agg #[.int .i64 R, .int .i64 k], .agg #[.int .i64 ar, .int .i64 an]] W fun e w' => e = .returned (.int .i64 1) ∧ Ext W w') := fun W => by rw [← g2]; exact balCmp_any _ _ _ _ W
      obtain ⟨c1, hc1⟩ : ∃ c1, cmpBal cr k ar an = c1 := ⟨_, rfl⟩
      obtain ⟨c2, hc2⟩ : ∃ c2, cmpBal cr k R k = c2 := ⟨_, rfl⟩
      have HC3 : Hid (∀ W, Calls Try.prog 20 #[.agg #[.int .i64 cr, .int .i64 k], .agg #[.int .i64 ar, .int .i64 an]] W fun e w' => e = .returned (.int .i64 c1) ∧ Ext W w') := fun W => by rw [← hc1]; exact balCmp_any _ _ _ _ W
      have HC4 : Hid (∀ W, Calls Try.prog 20 #[.agg #[.int .i64 cr, .int .i64 k], .agg #[.int .i64 R, .int .i64 k]] W fun e w' => e = .returned (.int .i64 c2) ∧ Ext W w') := fun W => by rw [← hc2]; exact balCmp_any _ _ _ _ W
      rw [hc1, hc2] at g3
      clear hm hb hR hmx g1 g2 hc1 hc2
      by_cases hc : c1 ≤ 0
      all_goals
        try have g4 := g3 hc
        clear g3
        go_enter Try.func4, Try.ntmps4
        go_wp2_with (first
          | (go_at_call 18; rw [← HW0.out, HK.out]; (with_reducible refine (HM.out _).mono ?_); rintro e w1 ⟨rfl, hx⟩; have a0 := (K0.out.stay hx).cell 0; have a1 := (K0.out.stay hx).cell 1; have X1 := Lib.hid hx; clear hx)
          | (go_at_call 15; (with_reducible refine (HN.out _).mono ?_); rintro e w2 ⟨rfl, hx⟩; have z1 : w.heap.size + 1 < w2.heap.size := ((K1.out.stay X1.out).stay hx).lt; have q0 := ((K1.out.stay X1.out).stay hx).cell 1; have q1 := ((K1.out.stay X1.out).stay hx).frozen 1; have X2 := Lib.hid hx; clear hx)
          | (go_at_call 17; (with_reducible refine (HTO.out _).mono ?_); rintro e w4 ⟨rfl, hx⟩; have p0 := ((((K0.out.stay X1.out).stay X2.out).far (p := ⟨w.heap.size + 1, 1, none⟩) (show w.heap.size ≠ w.heap.size + 1 by omega) (.int .i64 k)).alloc _).stay hx; have p1 := ((((K1.out.stay X1.out).stay X2.out).set 1 (.int .i64 k)).alloc _).stay hx; have p2 := (Blk.new' (w2.setCell ⟨w.heap.size + 1, 1, none⟩ (.int .i64 k)) 23 #[.int .i64 R, .int .i64 k] w2.heap.size (by simp [World.setCell])).stay hx; have fa0 : ∀ W, Ext w4 W → W.cell? ⟨w.heap.size, 0, none⟩ = some (.int .i64 ar) := fun W h => (p0.stay h).cell 0; have fa1 : ∀ W, Ext w4 W → W.cell? ⟨w.heap.size, 1, none⟩ = some (.int .i64 an) := fun W h => (p0.stay h).cell 1; have fc0 : ∀ W, Ext w4 W → W.cell? ⟨w.heap.size + 1, 0, none⟩ = some (.int .i64 cr) := fun W h => (p1.stay h).cell 0; have fc1 : ∀ W, Ext w4 W → W.cell? ⟨w.heap.size + 1, 1, none⟩ = some (.int .i64 k) := fun W h => (p1.stay h).cell 1; have fx0 : ∀ W, Ext w4 W → W.cell? ⟨w2.heap.size, 0, none⟩ = some (.int .i64 R) := fun W h => (p2.stay h).cell 0; have fx1 : ∀ W, Ext w4 W → W.cell? ⟨w2.heap.size, 1, none⟩ = some (.int .i64 k) := fun W h => (p2.stay h).cell 1; have h4 : Ext w4 w4 := Ext.refl _; have X4 : Hid (Ext w w4) := Ext.trans (Ext.trans (Below.setCell (p := ⟨w.heap.size + 1, 1, none⟩) (Ext.trans (Ext.trans HB0.out X1.out) X2.out) (show w.heap.size ≤ w.heap.size + 1 by omega) _) (Ext.alloc _ _)) hx; clear hx p0 p1 p2 q0 q1)
          | (go_at_call 18; (with_reducible refine (HMX.out _).mono ?_); rintro e w5 ⟨rfl, hx⟩; have h5 : Ext w4 w5 := Ext.trans h4 hx; clear hx)
          | (go_at_call 20; (with_reducible refine (HC1.out _).mono ?_); rintro e w6 ⟨rfl, hx⟩; have h6 : Ext w4 w6 := Ext.trans h5 hx; clear hx)
          | (go_at_call 20; (with_reducible refine (HC2.out _).mono ?_); rintro e w7 ⟨rfl, hx⟩; have h7 : Ext w4 w7 := Ext.trans h6 hx; clear hx)
          | (go_at_call 20; (with_reducible refine (HC3.out _).mono ?_); rintro e w8 ⟨rfl, hx⟩; have h8 : Ext w4 w8 := Ext.trans h7 hx; clear hx)
          | (go_at_call 20; (with_reducible refine (HC4.out _).mono ?_); rintro e w9 ⟨rfl, hx⟩; have h9 : Ext w4 w9 := Ext.trans h8 hx; clear hx))
        try go_ret
        first
          | exact hD.out _ _ ⟨rfl, Ext.trans X4.out h8⟩
          | exact hD.out _ _ ⟨rfl, Ext.trans X4.out h9⟩
theorem law_ballotOrder {H : Type} {enc : TypeId × Value → H} (W : World) (base : Nat) (args : Array Value) (ds : List (DataW H)) (p : List MemPlace)
    (hval : ∀ (j : Nat) t v, Try.f4.params[j]? = some t → args[j]? = some v → Value.okWide Try.prog W .any base t v)
    (hA : DataW.TrodAll enc Try.prog W 0 (fun _ => true) true Try.f4.params.toList args.toList ds p) :
    Calls Try.prog 4 args W fun e W' => e = .returned (.bool true) ∧ Below W.heap.size W W' := by
  rw [Try.params4] at hA hval
  obtain ⟨v0, vs0, d0, ds0, p0, q0, hargs, rfl, rfl, h0, r0⟩ := trodAll_cons hA
  obtain ⟨v1, vs1, d1, ds1, p1, q1, rfl, rfl, rfl, h1, r1⟩ := trodAll_cons r0
  obtain ⟨v2, vs2, d2, ds2, p2, q2, rfl, rfl, rfl, h2, r2⟩ := trodAll_cons r1
  obtain ⟨rfl, rfl, rfl⟩ := trodAll_nil r2
  obtain rfl : args = #[v0, v1, v2] := by cases args; simp_all
  obtain ⟨r0_, n0, rfl, wr0, wn0⟩ := open_bal (hval 0 23 v0 rfl rfl) h0
  obtain ⟨a1, rfl, rfl, rfl, w1⟩ := open_int Try.underlying3 (hval 1 3 v1 rfl rfl) h1
  obtain ⟨r2_, n2, rfl, wr2, wn2⟩ := open_bal (hval 2 23 v2 rfl rfl) h2
  exact walk_ballotOrder r0_ n0 a1 r2_ n2 W
end Go.Proofs.Ytjopolimkllibaa
