/-
  The walk of the law AcceptNobody.
-/
import Derived.Test.YtkdcbidbciognaaTold13
import Derived.Test.YtkdcbidbciognaaOpen
namespace Go.Proofs.Ytkdcbidbciognaa
set_option linter.unusedVariables false
set_option linter.unusedSimpArgs false
open Go.RowKit Go.ChangeShapes Go.WideShapes

theorem bytes_nil (w : World) : Calls Try.prog 37 #[.pointer none] w fun e w' => e = .returned (.slice none 0 0) ∧ w = w' := by
  go_enter Try.func37, Try.ntmps37
  go_wp2_with fail
  try go_ret
  exact ⟨rfl, rfl⟩

set_option maxRecDepth 8000 in
set_option maxHeartbeats 16000000 in
theorem walk_acceptNobody (e0 ep : Int) (A : Option Addr) (cap : Nat) (l : List Int) (w : World) (hcap : l.length ≤ cap) (hl : l.length ≤ 9223372036854775807) (hs : Sl i64 w A l) :
    Calls Try.prog 7 #[.int .i64 e0, .agg #[.int .i64 ep, .slice A l.length cap]] w fun e w' => e = .returned (.bool true) ∧ Below w.heap.size w w' := by
  refine hide_post fun D hD => ?_
  have HTO : Hid (∀ V, Calls Try.prog 31 #[] V fun e w' => e = .returned (.bool true) ∧ Ext V w') := told13
  obtain ⟨N, hN⟩ : ∃ N, N = l.length := ⟨_, rfl⟩
  rw [← hN] at hl hcap ⊢
  obtain ⟨w0, hw0⟩ : ∃ w0, w0 = w.alloc (.cells #[.int .i64 ep, .slice A N cap] 26) := ⟨_, rfl⟩
  have hb0 : Ext w w0 := by rw [hw0]; exact ext_al _ _
  have KC : Hid (Blk w0 w.heap.size 26 #[.int .i64 ep, .slice A N cap]) := by show Blk _ _ _ _; rw [hw0]; exact Blk.new _ _ _
  have CP : Hid (∀ V, Calls Try.prog 27 #[.pointer none, .int .i64 e0, .agg #[.int .i64 0, .int .i64 0]] V fun e w' => e = .returned (.tuple #[.agg #[.int .i64 0, .int .i64 0, .int .i64 0, .int .i64 0, .bool false, .int .i64 0, .slice none 0 0], .int .i64 1]) ∧ Ext V w') := fun V => prep_nil e0 0 0 V
  have CA : Hid (∀ V, Calls Try.prog 32 #[.pointer none, .agg #[.int .i64 ep, .slice A N cap], .agg #[.int .i64 0, .int .i64 0], .bool false] V fun e w' => e = .returned (.int .i64 1) ∧ Ext V w') := fun V => by rw [hN]; exact acc_nil ep 0 0 A cap l false V
  have CL : Hid (∀ V, Calls Try.prog 28 #[.pointer none, .agg #[.int .i64 ep, .slice A N cap]] V fun e w' => e = .returned (.int .i64 1) ∧ Ext V w') := fun V => by rw [hN]; exact learn_nil ep A cap l V
  have CB : Hid (∀ V, Calls Try.prog 37 #[.pointer none] V fun e w' => e = .returned (.slice none 0 0) ∧ V = w') := bytes_nil
  have CK : Hid (∀ V, Calls Try.prog 30 #[.pointer none] V fun e w' => e = .returned (.agg #[.int .i64 0, .slice none 0 0]) ∧ Ext V w') := known_nil
  have CVO : Hid (∀ V, Calls Try.prog 29 #[.pointer none] V fun e w' => e = .returned (.agg #[.int .i64 0, .int .i64 0, .int .i64 0, .int .i64 0, .bool false, .int .i64 0, .slice none 0 0]) ∧ Ext V w') := vote_nil
  have hf1 : ∀ w, (Instr.field 26 (.agg #[.int .i64 0, .slice none 0 0]) 1).run Try.prog w = .ok (.slice none 0 0) w := fun _ => by kernel_rfl
  have hf2 : ∀ w, (Instr.field 40 (.agg #[.int .i64 0, .int .i64 0, .int .i64 0, .int .i64 0, .bool false, .int .i64 0, .slice none 0 0]) 2).run Try.prog w = .ok (.bool false) w := fun _ => by kernel_rfl
  have HB := Lib.hid hb0
  have HW := Lib.hid hw0
  have c0 := KC.out.cell 0
  have c1 := KC.out.cell 1
  clear hb0 hw0 hs hN hcap
  simp at c0 c1
  by_cases hg : (8 : Int) < (N : Int)
  · go_enter Try.func7, Try.ntmps7
    go_wp2_with (go_at_call 31; rw [← HW.out]; (with_reducible refine (HTO.out _).mono ?_); rintro e w1 ⟨rfl, hx⟩; have X1 := Lib.hid hx; clear hx)
    try go_ret
    exact hD.out _ _ ⟨rfl, Ext.trans HB.out X1.out⟩
  · go_enter Try.func7, Try.ntmps7
    go_wp2_with (first
      | (go_at_call 27; rw [← HW.out]; (with_reducible refine (CP.out _).mono ?_); rintro e w1 ⟨rfl, hx⟩; have X1 : Hid (Ext w0 (w1.alloc (.cells #[.int .i64 0, .int .i64 0, .int .i64 0, .int .i64 0, .bool false, .int .i64 0, .slice none 0 0] 40))) := Ext.trans hx (ext_al _ _); clear hx)
      | (go_at_call 31; (with_reducible refine (HTO.out _).mono ?_); rintro e w2 ⟨rfl, hx⟩; have X2 : Hid (Ext w0 w2) := Ext.trans X1.out hx; have d0 := (KC.out.stay X2.out).cell 0; have d1 := (KC.out.stay X2.out).cell 1; simp at d0 d1; clear hx)
      | (go_at_call 32; (with_reducible refine (CA.out _).mono ?_); rintro e w3 ⟨rfl, hx⟩; have X3 : Hid (Ext w0 w3) := Ext.trans X2.out hx; have e0 := (KC.out.stay X3.out).cell 0; have e1 := (KC.out.stay X3.out).cell 1; simp at e0 e1; clear hx)
      | (go_at_call 28; (with_reducible refine (CL.out _).mono ?_); rintro e w4 ⟨rfl, hx⟩; have X4 : Hid (Ext w0 w4) := Ext.trans X3.out hx; clear hx)
      | (go_at_call 37; (with_reducible refine (CB.out _).mono ?_); rintro e w5 ⟨rfl, rfl⟩)
      | (go_at_call 30; (with_reducible refine (CK.out _).mono ?_); rintro e w6 ⟨rfl, hx⟩; have X6 : Hid (Ext w0 w6) := Ext.trans X4.out hx; clear hx)
      | (go_at_call 29; (with_reducible refine (CVO.out _).mono ?_); rintro e w7 ⟨rfl, hx⟩; have X7 : Hid (Ext w0 w7) := Ext.trans X6.out hx; clear hx))
    try go_ret
    exact hD.out _ _ ⟨rfl, Ext.trans HB.out X7.out⟩

set_option maxRecDepth 100000 in
theorem law_acceptNobody {H : Type} {enc : TypeId × Value → H} (W : World) (base : Nat) (args : Array Value) (ds : List (DataW H)) (p : List MemPlace)
    (hval : ∀ (j : Nat) t v, Try.f7.params[j]? = some t → args[j]? = some v → Value.okWide Try.prog W .any base t v)
    (hA : DataW.TrodAll enc Try.prog W 0 (fun _ => true) true Try.f7.params.toList args.toList ds p) :
    Calls Try.prog 7 args W fun e W' => e = .returned (.bool true) ∧ Below W.heap.size W W' := by
  rw [Try.params7] at hA hval
  obtain ⟨v0, vs0, d0, ds0, p0, q0, hargs, rfl, rfl, h0, r0⟩ := trodAll_cons hA
  obtain ⟨v1, vs1, d1, ds1, p1, q1, rfl, rfl, rfl, h1, r1⟩ := trodAll_cons r0
  obtain ⟨rfl, rfl, rfl⟩ := trodAll_nil r1
  obtain rfl : args = #[v0, v1] := by cases args; simp_all
  obtain ⟨a0, rfl, rfl, rfl, w0⟩ := open_int Try.underlying3 (hval 0 3 v0 rfl rfl) h0
  obtain ⟨ep1, A1, c1, l1, rfl, w1, x1, y1, z1, g1⟩ := open_chain (hval 1 26 v1 rfl rfl) h1
  exact walk_acceptNobody a0 ep1 A1 c1 l1 W x1 (Nat.le_trans x1 y1) z1

end Go.Proofs.Ytkdcbidbciognaa
