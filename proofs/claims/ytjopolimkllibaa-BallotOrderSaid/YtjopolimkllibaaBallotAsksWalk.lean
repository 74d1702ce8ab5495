/-
  The walk of the law BallotAsks.
-/
import Derived.Test.YtjopolimkllibaaToldBal
import Derived.Test.YtjopolimkllibaaOpen
namespace Go.Proofs.Ytjopolimkllibaa
set_option linter.unusedVariables false
set_option linter.unusedSimpArgs false
open Go.RowKit Go.ChangeShapes Go.WideShapes Go.Joins Go.Deep

/-- a ballot that came in -/
theorem open_bal {H : Type} {enc : TypeId × Value → H} {W : World} {base : Nat} {r : Reach} {v : Value} {d : DataW H} {p : List MemPlace}
    (hval : Value.okWide Try.prog W r base 23 v) (h : DataW.Trod enc Try.prog W 0 (fun _ => true) true 23 v d p) :
    ∃ (x y : Int), v = .agg #[.int .i64 x, .int .i64 y] ∧ (Lit.int .i64 x).wf = true ∧ (Lit.int .i64 y).wf = true := by
  obtain ⟨c0, c1, y0, y1, m, rfl, _, _, hy0, hy1⟩ := open_agg2 Try.underlying23 (by kernel_rfl) (by kernel_rfl) hval h
  obtain ⟨x, e0, _, w0⟩ := DataW.trod_int Try.underlying3 hy0
  obtain ⟨y, e1, _, w1⟩ := DataW.trod_int Try.underlying3 hy1
  simp only [List.cons.injEq, and_true] at e0 e1
  subst e0; subst e1
  exact ⟨x, y, rfl, w0, w1⟩

set_option maxHeartbeats 8000000 in
theorem walk_ballotAsks (ar an br bn node : Int) (w : World) :
    Calls Try.prog 3 #[.agg #[.int .i64 ar, .int .i64 an], .agg #[.int .i64 br, .int .i64 bn], .int .i64 node] w fun e w' => e = .returned (.bool true) ∧ Below w.heap.size w w' := by
  refine hide_post fun D hD => ?_
  obtain ⟨w0, hw0⟩ : ∃ w0, w0 = (w.alloc (.cells #[.int .i64 ar, .int .i64 an] 23)).alloc (.cells #[.int .i64 br, .int .i64 bn] 23) := ⟨_, rfl⟩
  have K0 : Hid (Blk w0 w.heap.size 23 #[.int .i64 ar, .int .i64 an]) := by show Blk _ _ _ _; rw [hw0]; exact (Blk.new _ _ _).alloc _
  have K1 : Hid (Blk w0 (w.heap.size + 1) 23 #[.int .i64 br, .int .i64 bn]) := by show Blk _ _ _ _; rw [hw0]; exact Blk.new' _ _ _ _ (by simp)
  have HB0 : Hid (Ext w w0) := by show Below _ _ _; rw [hw0]; exact ((Below.refl _ _).alloc (Nat.le_refl _) _).alloc (by simp) _
  have HW0 := Lib.hid hw0
  clear hw0
  obtain ⟨b, hb⟩ : ∃ b, nextB ar an node = b := ⟨_, rfl⟩
  obtain ⟨X, hX⟩ : ∃ X : Int, X = if b then nextR ar an node else 0 := ⟨_, rfl⟩
  obtain ⟨Y, hY⟩ : ∃ Y : Int, Y = if b then node else 0 := ⟨_, rfl⟩
  have HN : Hid (∀ W, Calls Try.prog 15 #[.agg #[.int .i64 ar, .int .i64 an], .int .i64 node] W fun e w' => e = .returned (.tuple #[.agg #[.int .i64 X, .int .i64 Y], .bool b]) ∧ Ext W w') := fun W => (next_any ar an node b hb W).mono fun _ _ ⟨he, h⟩ => ⟨by rw [he, hX, hY], h⟩
  have HR : Hid (∀ W, Calls Try.prog 16 #[.agg #[.int .i64 ar, .int .i64 an], .int .i64 node] W fun e w' => e = .returned (.tuple #[.agg #[.int .i64 X, .int .i64 Y], .bool b]) ∧ Ext W w') := fun W => (refNext_any ar an node b hb W).mono fun _ _ ⟨he, h⟩ => ⟨by rw [he, hX, hY], h⟩
  have HTO : Hid (∀ W, Calls Try.prog 17 #[] W fun e w' => e = .returned (.bool true) ∧ Ext W w') := told_bal
  obtain ⟨m, hm⟩ : ∃ m, mayBal ar an = m := ⟨_, rfl⟩
  have HM : Hid (∀ W, Calls Try.prog 18 #[.agg #[.int .i64 ar, .int .i64 an]] W fun e w' => e = .returned (.bool m) ∧ Ext W w') := fun W => by rw [← hm]; exact mayBal_any ar an W
  have HMR : Hid (∀ W, Calls Try.prog 19 #[.agg #[.int .i64 ar, .int .i64 an]] W fun e w' => e = .returned (.bool m) ∧ Ext W w') := fun W => by rw [← hm]; exact refMayBal_any ar an W
  obtain ⟨c, hc⟩ : ∃ c, cmpBal ar an br bn = c := ⟨_, rfl⟩
  have HC : Hid (∀ W, Calls Try.prog 20 #[.agg #[.int .i64 ar, .int .i64 an], .agg #[.int .i64 br, .int .i64 bn]] W fun e w' => e = .returned (.int .i64 c) ∧ Ext W w') := fun W => by rw [← hc]; exact balCmp_any ar an br bn W
  have HCR : Hid (∀ W, Calls Try.prog 21 #[.agg #[.int .i64 ar, .int .i64 an], .agg #[.int .i64 br, .int .i64 bn]] W fun e w' => e = .returned (.int .i64 c) ∧ Ext W w') := fun W => by rw [← hc]; exact refCmp_any ar an br bn W
  clear hm hc hb hX hY
  go_enter Try.func3, Try.ntmps3
  go_wp2_with (first
    | (go_at_call 15; rw [← HW0.out]; (with_reducible refine (HN.out _).mono ?_); rintro e w1 ⟨rfl, hx⟩; have a0 := (K0.out.stay hx).cell 0; have a1 := (K0.out.stay hx).cell 1; have z0 : w.heap.size < w1.heap.size := (K0.out.stay hx).lt; have X1 := Lib.hid hx; clear hx)
    | (go_at_call 16; (with_reducible refine (HR.out _).mono ?_); rintro e w2 ⟨rfl, hx⟩; have X2 := Lib.hid hx; clear hx))
  obtain ⟨w3, hw3⟩ : ∃ w3, w3 = w2.alloc (.cells #[.int .i64 X, .int .i64 Y] 23) := ⟨_, rfl⟩
  rw [← hw3]
  have e13 : Ext w1 w3 := by rw [hw3]; exact Ext.trans (Ext.trans (Ext.alloc _ _) X2.out) (Ext.alloc _ _)
  have e03 : Ext w0 w3 := Ext.trans X1.out e13
  have k2 : Blk w3 w1.heap.size 23 #[.int .i64 X, .int .i64 Y] := by rw [hw3]; exact ((Blk.new w1 _ _).stay X2.out).alloc _
  have k3 : Blk w3 w2.heap.size 23 #[.int .i64 X, .int .i64 Y] := by rw [hw3]; exact Blk.new w2 _ _
  have HX3 : Hid (Ext w w3) := Ext.trans HB0.out e03
  have E3 : Hid (Ext w3 w3) := Ext.refl _
  clear a0 a1 z0
  have fa0 : ∀ W, Ext w3 W → W.cell? ⟨w.heap.size, 0, none⟩ = some (.int .i64 ar) := fun W h => ((K0.out.stay e03).stay h).cell 0
  have fa1 : ∀ W, Ext w3 W → W.cell? ⟨w.heap.size, 1, none⟩ = some (.int .i64 an) := fun W h => ((K0.out.stay e03).stay h).cell 1
  have fb0 : ∀ W, Ext w3 W → W.cell? ⟨w.heap.size + 1, 0, none⟩ = some (.int .i64 br) := fun W h => ((K1.out.stay e03).stay h).cell 0
  have fb1 : ∀ W, Ext w3 W → W.cell? ⟨w.heap.size + 1, 1, none⟩ = some (.int .i64 bn) := fun W h => ((K1.out.stay e03).stay h).cell 1
  have fx0 : ∀ W, Ext w3 W → W.cell? ⟨w1.heap.size, 0, none⟩ = some (.int .i64 X) := fun W h => ((k2).stay h).cell 0
  have fx1 : ∀ W, Ext w3 W → W.cell? ⟨w1.heap.size, 1, none⟩ = some (.int .i64 Y) := fun W h => ((k2).stay h).cell 1
  have fy0 : ∀ W, Ext w3 W → W.cell? ⟨w2.heap.size, 0, none⟩ = some (.int .i64 X) := fun W h => ((k3).stay h).cell 0
  have fy1 : ∀ W, Ext w3 W → W.cell? ⟨w2.heap.size, 1, none⟩ = some (.int .i64 Y) := fun W h => ((k3).stay h).cell 1
  clear e13 e03 k2 k3 hw3
  refine ext_begin (by kernel_rfl) ?_
  have E3d := Lib.hid (Ext.drewR E3.out)
  refine ext_call (i := 0) rfl (by kernel_rfl) (by rfl) (fun K hK => ?_)
  go_simp
  (go_at_call 17; (with_reducible refine (HTO.out _).mono ?_); rintro e w4 ⟨rfl, hx⟩; refine hK _ _ hx ?_; clear hK)
  have Ew4 := Lib.hid (Ext.trans E3d.out hx)
  clear hx
  try simp only [Act.put, List.setIfInBounds_toArray, List.set_cons_zero, List.set_cons_succ]
  refine ext_take (i := 1) (v := ?_) rfl (by kernel_rfl) (by kernel_rfl) (by kernel_rfl) (fun _ _ _ h => h) (by rfl) ?_ ?_
  rotate_left
  · intro W hW; have hW0 := Ext.trans Ew4.out hW; clear hW; go_simp <;> with_reducible rfl
  try simp only [Act.put, List.setIfInBounds_toArray, List.set_cons_zero, List.set_cons_succ]
  refine ext_take (i := 2) (v := ?_) rfl (by kernel_rfl) (by kernel_rfl) (by kernel_rfl) (fun _ _ _ h => h) (by rfl) ?_ ?_
  rotate_left
  · intro W hW; have hW0 := Ext.trans Ew4.out hW; clear hW; go_simp <;> with_reducible rfl
  try simp only [Act.put, List.setIfInBounds_toArray, List.set_cons_zero, List.set_cons_succ]
  refine ext_take (i := 4) (v := ?_) rfl (by kernel_rfl) (by kernel_rfl) (by kernel_rfl) (fun _ _ _ h => h) (by rfl) ?_ ?_
  rotate_left
  · intro W hW; have hW0 := Ext.trans Ew4.out hW; clear hW; go_simp <;> with_reducible rfl
  try simp only [Act.put, List.setIfInBounds_toArray, List.set_cons_zero, List.set_cons_succ]
  refine ext_call (i := 3) rfl (by kernel_rfl) (by rfl) (fun K hK => ?_)
  go_simp
  (go_at_call 18; (with_reducible refine (HM.out _).mono ?_); rintro e w5 ⟨rfl, hx⟩; refine hK _ _ hx ?_; clear hK)
  have Ew5 := Lib.hid (Ext.trans Ew4.out hx)
  clear hx
  try simp only [Act.put, List.setIfInBounds_toArray, List.set_cons_zero, List.set_cons_succ]
  refine ext_call (i := 5) rfl (by kernel_rfl) (by rfl) (fun K hK => ?_)
  go_simp
  (go_at_call 19; (with_reducible refine (HMR.out _).mono ?_); rintro e w6 ⟨rfl, hx⟩; refine hK _ _ hx ?_; clear hK)
  have Ew6 := Lib.hid (Ext.trans Ew5.out hx)
  clear hx
  try simp only [Act.put, List.setIfInBounds_toArray, List.set_cons_zero, List.set_cons_succ]
  refine ext_take (i := 6) (v := ?_) rfl (by kernel_rfl) (by kernel_rfl) (by kernel_rfl) (fun _ _ _ h => h) (by rfl) ?_ ?_
  rotate_left
  · intro W hW; have hW0 := Ext.trans Ew6.out hW; clear hW; go_simp <;> with_reducible rfl
  try simp only [Act.put, List.setIfInBounds_toArray, List.set_cons_zero, List.set_cons_succ]
  refine ext_take (i := 7) (v := ?_) rfl (by kernel_rfl) (by kernel_rfl) (by kernel_rfl) (fun _ _ _ h => h) (by rfl) ?_ ?_
  rotate_left
  · intro W hW; have hW0 := Ext.trans Ew6.out hW; clear hW; go_simp <;> with_reducible rfl
  try simp only [Act.put, List.setIfInBounds_toArray, List.set_cons_zero, List.set_cons_succ]
  refine ext_take (i := 8) (v := ?_) rfl (by kernel_rfl) (by kernel_rfl) (by kernel_rfl) (fun _ _ _ h => h) (by rfl) ?_ ?_
  rotate_left
  · intro W hW; have hW0 := Ext.trans Ew6.out hW; clear hW; go_simp <;> with_reducible rfl
  try simp only [Act.put, List.setIfInBounds_toArray, List.set_cons_zero, List.set_cons_succ]
  refine ext_take (i := 9) (v := ?_) rfl (by kernel_rfl) (by kernel_rfl) (by kernel_rfl) (fun _ _ _ h => h) (by rfl) ?_ ?_
  rotate_left
  · intro W hW; have hW0 := Ext.trans Ew6.out hW; clear hW; go_simp <;> with_reducible rfl
  try simp only [Act.put, List.setIfInBounds_toArray, List.set_cons_zero, List.set_cons_succ]
  refine ext_take (i := 10) (v := ?_) rfl (by kernel_rfl) (by kernel_rfl) (by kernel_rfl) (fun _ _ _ h => h) (by rfl) ?_ ?_
  rotate_left
  · intro W hW; have hW0 := Ext.trans Ew6.out hW; clear hW; go_simp <;> with_reducible rfl
  try simp only [Act.put, List.setIfInBounds_toArray, List.set_cons_zero, List.set_cons_succ]
  refine ext_take (i := 12) (v := ?_) rfl (by kernel_rfl) (by kernel_rfl) (by kernel_rfl) (fun _ _ _ h => h) (by rfl) ?_ ?_
  rotate_left
  · intro W hW; have hW0 := Ext.trans Ew6.out hW; clear hW; go_simp <;> with_reducible rfl
  try simp only [Act.put, List.setIfInBounds_toArray, List.set_cons_zero, List.set_cons_succ]
  refine ext_take (i := 13) (v := ?_) rfl (by kernel_rfl) (by kernel_rfl) (by kernel_rfl) (fun _ _ _ h => h) (by rfl) ?_ ?_
  rotate_left
  · intro W hW; have hW0 := Ext.trans Ew6.out hW; clear hW; go_simp <;> with_reducible rfl
  try simp only [Act.put, List.setIfInBounds_toArray, List.set_cons_zero, List.set_cons_succ]
  refine ext_call (i := 11) rfl (by kernel_rfl) (by rfl) (fun K hK => ?_)
  go_simp
  (go_at_call 20; (with_reducible refine (HC.out _).mono ?_); rintro e w7 ⟨rfl, hx⟩; refine hK _ _ hx ?_; clear hK)
  have Ew7 := Lib.hid (Ext.trans Ew6.out hx)
  clear hx
  try simp only [Act.put, List.setIfInBounds_toArray, List.set_cons_zero, List.set_cons_succ]
  refine ext_call (i := 14) rfl (by kernel_rfl) (by rfl) (fun K hK => ?_)
  go_simp
  (go_at_call 21; (with_reducible refine (HCR.out _).mono ?_); rintro e w8 ⟨rfl, hx⟩; refine hK _ _ hx ?_; clear hK)
  have Ew8 := Lib.hid (Ext.trans Ew7.out hx)
  clear hx
  try simp only [Act.put, List.setIfInBounds_toArray, List.set_cons_zero, List.set_cons_succ]
  refine ext_take (i := 15) (v := ?_) rfl (by kernel_rfl) (by kernel_rfl) (by kernel_rfl) (fun _ _ _ h => h) (by rfl) ?_ ?_
  rotate_left
  · intro W hW; have hW0 := Ext.trans Ew8.out hW; clear hW; go_simp <;> with_reducible rfl
  try simp only [Act.put, List.setIfInBounds_toArray, List.set_cons_zero, List.set_cons_succ]
  refine ext_take (i := 16) (v := ?_) rfl (by kernel_rfl) (by kernel_rfl) (by kernel_rfl) (fun _ _ _ h => h) (by rfl) ?_ ?_
  rotate_left
  · intro W hW; have hW0 := Ext.trans Ew8.out hW; clear hW; go_simp <;> with_reducible rfl
  try simp only [Act.put, List.setIfInBounds_toArray, List.set_cons_zero, List.set_cons_succ]
  refine ext_take (i := 17) (v := ?_) rfl (by kernel_rfl) (by kernel_rfl) (by kernel_rfl) (fun _ _ _ h => h) (by rfl) ?_ ?_
  rotate_left
  · intro W hW; have hW0 := Ext.trans Ew8.out hW; clear hW; go_simp <;> with_reducible rfl
  try simp only [Act.put, List.setIfInBounds_toArray, List.set_cons_zero, List.set_cons_succ]
  refine ext_take (i := 18) (v := ?_) rfl (by kernel_rfl) (by kernel_rfl) (by kernel_rfl) (fun _ _ _ h => h) (by rfl) ?_ ?_
  rotate_left
  · intro W hW; have hW0 := Ext.trans Ew8.out hW; clear hW; go_simp <;> with_reducible rfl
  try simp only [Act.put, List.setIfInBounds_toArray, List.set_cons_zero, List.set_cons_succ]
  refine ext_take (i := 19) (v := ?_) rfl (by kernel_rfl) (by kernel_rfl) (by kernel_rfl) (fun _ _ _ h => h) (by rfl) ?_ ?_
  rotate_left
  · intro W hW; have hW0 := Ext.trans Ew8.out hW; clear hW; go_simp <;> with_reducible rfl
  try simp only [Act.put, List.setIfInBounds_toArray, List.set_cons_zero, List.set_cons_succ]
  refine ext_take (i := 20) (v := ?_) rfl (by kernel_rfl) (by kernel_rfl) (by kernel_rfl) (fun _ _ _ h => h) (by rfl) ?_ ?_
  rotate_left
  · intro W hW; have hW0 := Ext.trans Ew8.out hW; clear hW; go_simp <;> with_reducible rfl
  try simp only [Act.put, List.setIfInBounds_toArray, List.set_cons_zero, List.set_cons_succ]
  refine ext_take (i := 21) (v := ?_) rfl (by kernel_rfl) (by kernel_rfl) (by kernel_rfl) (fun _ _ _ h => h) (by rfl) ?_ ?_
  rotate_left
  · intro W hW; have hW0 := Ext.trans Ew8.out hW; clear hW; go_simp <;> with_reducible rfl
  try simp only [Act.put, List.setIfInBounds_toArray, List.set_cons_zero, List.set_cons_succ]
  refine ext_take (i := 22) (v := ?_) rfl (by kernel_rfl) (by kernel_rfl) (by kernel_rfl) (fun _ _ _ h => h) (by rfl) ?_ ?_
  rotate_left
  · intro W hW; have hW0 := Ext.trans Ew8.out hW; clear hW; go_simp <;> with_reducible rfl
  try simp only [Act.put, List.setIfInBounds_toArray, List.set_cons_zero, List.set_cons_succ]
  refine ext_take (i := 23) (v := ?_) rfl (by kernel_rfl) (by kernel_rfl) (by kernel_rfl) (fun _ _ _ h => h) (by rfl) ?_ ?_
  rotate_left
  · intro W hW; have hW0 := Ext.trans Ew8.out hW; clear hW; go_simp <;> with_reducible rfl
  try simp only [Act.put, List.setIfInBounds_toArray, List.set_cons_zero, List.set_cons_succ]
  refine ext_take (i := 24) (v := ?_) rfl (by kernel_rfl) (by kernel_rfl) (by kernel_rfl) (fun _ _ _ h => h) (by rfl) ?_ ?_
  rotate_left
  · intro W hW; have hW0 := Ext.trans Ew8.out hW; clear hW; go_simp <;> with_reducible rfl
  try simp only [Act.put, List.setIfInBounds_toArray, List.set_cons_zero, List.set_cons_succ]
  refine ext_take (i := 25) (v := ?_) rfl (by kernel_rfl) (by kernel_rfl) (by kernel_rfl) (fun _ _ _ h => h) (by rfl) ?_ ?_
  rotate_left
  · intro W hW; have hW0 := Ext.trans Ew8.out hW; clear hW; go_simp <;> with_reducible rfl
  try simp only [Act.put, List.setIfInBounds_toArray, List.set_cons_zero, List.set_cons_succ]
  refine ext_take (i := 26) (v := ?_) rfl (by kernel_rfl) (by kernel_rfl) (by kernel_rfl) (fun _ _ _ h => h) (by rfl) ?_ ?_
  rotate_left
  · intro W hW; have hW0 := Ext.trans Ew8.out hW; clear hW; go_simp <;> with_reducible rfl
  try simp only [Act.put, List.setIfInBounds_toArray, List.set_cons_zero, List.set_cons_succ]
  refine ext_take (i := 27) (v := ?_) rfl (by kernel_rfl) (by kernel_rfl) (by kernel_rfl) (fun _ _ _ h => h) (by rfl) ?_ ?_
  rotate_left
  · intro W hW; have hW0 := Ext.trans Ew8.out hW; clear hW; go_simp <;> with_reducible rfl
  try simp only [Act.put, List.setIfInBounds_toArray, List.set_cons_zero, List.set_cons_succ]
  refine wpAnyH_done (by kernel_rfl) ?_ _
  go_wp2
  try go_ret
  exact hD.out _ _ ⟨rfl, Ext.trans HX3.out Ew8.out⟩

theorem law_ballotAsks {H : Type} {enc : TypeId × Value → H} (W : World) (base : Nat) (args : Array Value) (ds : List (DataW H)) (p : List MemPlace)
    (hval : ∀ (j : Nat) t v, Try.f3.params[j]? = some t → args[j]? = some v → Value.okWide Try.prog W .any base t v)
    (hA : DataW.TrodAll enc Try.prog W 0 (fun _ => true) true Try.f3.params.toList args.toList ds p) :
    Calls Try.prog 3 args W fun e W' => e = .returned (.bool true) ∧ Below W.heap.size W W' := by
  rw [Try.params3] at hA hval
  obtain ⟨v0, vs0, d0, ds0, p0, q0, hargs, rfl, rfl, h0, r0⟩ := trodAll_cons hA
  obtain ⟨v1, vs1, d1, ds1, p1, q1, rfl, rfl, rfl, h1, r1⟩ := trodAll_cons r0
  obtain ⟨v2, vs2, d2, ds2, p2, q2, rfl, rfl, rfl, h2, r2⟩ := trodAll_cons r1
  obtain ⟨rfl, rfl, rfl⟩ := trodAll_nil r2
  obtain rfl : args = #[v0, v1, v2] := by cases args; simp_all
  obtain ⟨r0_, n0, rfl, wr0, wn0⟩ := open_bal (hval 0 23 v0 rfl rfl) h0
  obtain ⟨r1_, n1, rfl, wr1, wn1⟩ := open_bal (hval 1 23 v1 rfl rfl) h1
  obtain ⟨a2, rfl, rfl, rfl, w2⟩ := open_int Try.underlying3 (hval 2 3 v2 rfl rfl) h2
  exact walk_ballotAsks r0_ n0 r1_ n1 a2 W
end Go.Proofs.Ytjopolimkllibaa
