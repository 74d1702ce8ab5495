/-
  The walk of the law ReqNewer.
-/
import Derived.Test.YtbjekbbokhjfmaaToldReq
namespace Go.Proofs.Ytbjekbbokhjfmaa
set_option linter.unusedVariables false
set_option linter.unusedSimpArgs false
open Go.RowKit Go.ChangeShapes Go.WideShapes

theorem ReqAt.told {w W : World} {g : Nat} {c s k i m : Int} {d : ByteArray} (H : ReqAt w W g c s k i m d) :
    Calls Try.prog 19 #[] W fun e w' => e = .returned (.bool true) ∧ ReqAt w w' g c s k i m d := (told_req W).mono fun _ _ ⟨he, h⟩ => ⟨he, H.stay h⟩

set_option maxHeartbeats 2000000 in
theorem walk_reqNewer (a b c : Int) (w : World) : Calls Try.prog 7 #[.int .i64 a, .int .i64 b, .int .i64 c] w fun e w' => e = .returned (.bool true) ∧ Below w.heap.size w w' := by
  obtain ⟨x0, x1⟩ := umod_bd a 1073741824 (by omega) (by omega)
  obtain ⟨y0, y1⟩ := umod_bd b 1073741824 (by omega) (by omega)
  refine hide_post fun D hD => ?_
  go_enter Try.func7, Try.ntmps7
  go_wp2_with fail
  all_goals generalize wrap64 ((IntKind.u64.wrap a).tmod 1073741824) = x at *
  all_goals generalize wrap64 ((IntKind.u64.wrap b).tmod 1073741824) = y at *
  all_goals
    obtain ⟨X, hX⟩ : ∃ X, X = 1 + x := ⟨_, rfl⟩
    obtain ⟨Y, hY⟩ : ∃ Y, Y = 1 + y := ⟨_, rfl⟩
    rw [← hX, ← hY]
    have X0 : 1 ≤ X := by omega
    have X1 : X ≤ 1073741824 := by omega
    have Y0 : 1 ≤ Y := by omega
    have Y1 : Y ≤ 1073741824 := by omega
    clear hX hY x0 x1 y0 y1
  · have HM : Hid (mayReqB 3 X 3 7 2 ({ data := #[] } : ByteArray).size = true) := by
      show mayReqB 3 X 3 7 2 ({ data := #[] } : ByteArray).size = true
      unfold mayReqB
      rw [show ({ data := #[] } : ByteArray).size = 0 from rfl]
      exact decide_eq_true (by omega)
    have K0 : Hid (ReqAt w (w.alloc (.cells #[.int .i64 3, .int .i64 X, .int .i64 3, .int .i64 7, .int .i64 2, .string { data := #[] }] 35)) w.heap.size 3 X 3 7 2 { data := #[] }) := ⟨(Below.refl _ _).alloc (Nat.le_refl _) _, Blk.new _ _ _⟩
    have HN2 : Hid (∀ W, ReqAt w W w.heap.size 3 X 3 7 2 { data := #[] } → Calls Try.prog 25 #[.agg #[.int .i64 3, .int .i64 X, .int .i64 3, .int .i64 7, .int .i64 2, .string { data := #[] }], .int .i64 (X - 1)] W fun e w' => e = .returned (.bool true) ∧ ReqAt w w' w.heap.size 3 X 3 7 2 { data := #[] }) := fun W H => H.newer _ _ _ _ _ _ (X - 1) (by decide) true (by rw [HM.out]; simp; omega)
    have HN3 : Hid (∀ W, ReqAt w W w.heap.size 3 X 3 7 2 { data := #[] } → Calls Try.prog 25 #[.agg #[.int .i64 3, .int .i64 X, .int .i64 3, .int .i64 7, .int .i64 2, .string { data := #[] }], .int .i64 X] W fun e w' => e = .returned (.bool false) ∧ ReqAt w w' w.heap.size 3 X 3 7 2 { data := #[] }) := fun W H => H.newer _ _ _ _ _ _ X (by decide) false (by rw [HM.out]; simp)
    have HK : Hid (∀ W, ReqAt w W w.heap.size 3 X 3 7 2 { data := #[] } → Calls Try.prog 24 #[.agg #[.int .i64 3, .int .i64 X, .int .i64 3, .int .i64 7, .int .i64 2, .string { data := #[] }]] W fun e w' => e = .returned (.int .i64 7) ∧ ReqAt w w' w.heap.size 3 X 3 7 2 { data := #[] }) := fun W H => H.key _ _ _ _ _ _ (by decide) 7 (by rw [HM.out]; rfl)
    by_cases hyx : Y < X
    all_goals
      have HN1 : Hid (∀ b, decide (Y < X) = b → ∀ W, ReqAt w W w.heap.size 3 X 3 7 2 { data := #[] } → Calls Try.prog 25 #[.agg #[.int .i64 3, .int .i64 X, .int .i64 3, .int .i64 7, .int .i64 2, .string { data := #[] }], .int .i64 Y] W fun e w' => e = .returned (.bool b) ∧ ReqAt w w' w.heap.size 3 X 3 7 2 { data := #[] }) := fun b hb W H => H.newer _ _ _ _ _ _ Y (by decide) b (by rw [HM.out, ← hb]; rfl)
      (first | have HN := Lib.hid (HN1.out true (decide_eq_true hyx)) | have HN := Lib.hid (HN1.out false (decide_eq_false hyx)))
      clear HN1
      go_wp2_with (first
        | (go_at_call 19; (with_reducible refine (ReqAt.told K0.out).mono ?_); rintro e w1 ⟨rfl, h⟩; obtain ⟨a0, a1, a2, a3, a4, a5⟩ := h.cells; have K1 := Lib.hid h; clear h)
        | (go_at_call 25; (with_reducible refine (HN.out _ K1.out).mono ?_); rintro e w2 ⟨rfl, h⟩; obtain ⟨b0, b1, b2, b3, b4, b5⟩ := h.cells; have K2 := Lib.hid h; clear h)
        | (go_at_call 25; (with_reducible refine (HN2.out _ K2.out).mono ?_); rintro e w3 ⟨rfl, h⟩; obtain ⟨d0, d1, d2, d3, d4, d5⟩ := h.cells; have K3 := Lib.hid h; clear h)
        | (go_at_call 25; (with_reducible refine (HN3.out _ K3.out).mono ?_); rintro e w4 ⟨rfl, h⟩; obtain ⟨f0, f1, f2, f3, f4, f5⟩ := h.cells; have K4 := Lib.hid h; clear h)
        | (go_at_call 24; (with_reducible refine (HK.out _ K4.out).mono ?_); rintro e w5 ⟨rfl, h⟩; have K5 := Lib.hid h; clear h))
      all_goals try go_ret
      first
        | exact hD.out _ _ ⟨rfl, K5.out.1⟩
        | exact hD.out _ _ ⟨ret_bool (show (!decide (Y < X)) = true by simp; omega), K5.out.1⟩
  · have HM : Hid (mayReqB 2 X 4 7 0 ({ data := #[] } : ByteArray).size = true) := by
      show mayReqB 2 X 4 7 0 ({ data := #[] } : ByteArray).size = true
      unfold mayReqB
      rw [show ({ data := #[] } : ByteArray).size = 0 from rfl]
      exact decide_eq_true (by omega)
    have K0 : Hid (ReqAt w (w.alloc (.cells #[.int .i64 2, .int .i64 X, .int .i64 4, .int .i64 7, .int .i64 0, .string { data := #[] }] 35)) w.heap.size 2 X 4 7 0 { data := #[] }) := ⟨(Below.refl _ _).alloc (Nat.le_refl _) _, Blk.new _ _ _⟩
    have HN2 : Hid (∀ W, ReqAt w W w.heap.size 2 X 4 7 0 { data := #[] } → Calls Try.prog 25 #[.agg #[.int .i64 2, .int .i64 X, .int .i64 4, .int .i64 7, .int .i64 0, .string { data := #[] }], .int .i64 (X - 1)] W fun e w' => e = .returned (.bool true) ∧ ReqAt w w' w.heap.size 2 X 4 7 0 { data := #[] }) := fun W H => H.newer _ _ _ _ _ _ (X - 1) (by decide) true (by rw [HM.out]; simp; omega)
    have HN3 : Hid (∀ W, ReqAt w W w.heap.size 2 X 4 7 0 { data := #[] } → Calls Try.prog 25 #[.agg #[.int .i64 2, .int .i64 X, .int .i64 4, .int .i64 7, .int .i64 0, .string { data := #[] }], .int .i64 X] W fun e w' => e = .returned (.bool false) ∧ ReqAt w w' w.heap.size 2 X 4 7 0 { data := #[] }) := fun W H => H.newer _ _ _ _ _ _ X (by decide) false (by rw [HM.out]; simp)
    have HK : Hid (∀ W, ReqAt w W w.heap.size 2 X 4 7 0 { data := #[] } → Calls Try.prog 24 #[.agg #[.int .i64 2, .int .i64 X, .int .i64 4, .int .i64 7, .int .i64 0, .string { data := #[] }]] W fun e w' => e = .returned (.int .i64 7) ∧ ReqAt w w' w.heap.size 2 X 4 7 0 { data := #[] }) := fun W H => H.key _ _ _ _ _ _ (by decide) 7 (by rw [HM.out]; rfl)
    by_cases hyx : Y < X
    all_goals
      have HN1 : Hid (∀ b, decide (Y < X) = b → ∀ W, ReqAt w W w.heap.size 2 X 4 7 0 { data := #[] } → Calls Try.prog 25 #[.agg #[.int .i64 2, .int .i64 X, .int .i64 4, .int .i64 7, .int .i64 0, .string { data := #[] }], .int .i64 Y] W fun e w' => e = .returned (.bool b) ∧ ReqAt w w' w.heap.size 2 X 4 7 0 { data := #[] }) := fun b hb W H => H.newer _ _ _ _ _ _ Y (by decide) b (by rw [HM.out, ← hb]; rfl)
      (first | have HN := Lib.hid (HN1.out true (decide_eq_true hyx)) | have HN := Lib.hid (HN1.out false (decide_eq_false hyx)))
      clear HN1
      go_wp2_with (first
        | (go_at_call 19; (with_reducible refine (ReqAt.told K0.out).mono ?_); rintro e w1 ⟨rfl, h⟩; obtain ⟨a0, a1, a2, a3, a4, a5⟩ := h.cells; have K1 := Lib.hid h; clear h)
        | (go_at_call 25; (with_reducible refine (HN.out _ K1.out).mono ?_); rintro e w2 ⟨rfl, h⟩; obtain ⟨b0, b1, b2, b3, b4, b5⟩ := h.cells; have K2 := Lib.hid h; clear h)
        | (go_at_call 25; (with_reducible refine (HN2.out _ K2.out).mono ?_); rintro e w3 ⟨rfl, h⟩; obtain ⟨d0, d1, d2, d3, d4, d5⟩ := h.cells; have K3 := Lib.hid h; clear h)
        | (go_at_call 25; (with_reducible refine (HN3.out _ K3.out).mono ?_); rintro e w4 ⟨rfl, h⟩; obtain ⟨f0, f1, f2, f3, f4, f5⟩ := h.cells; have K4 := Lib.hid h; clear h)
        | (go_at_call 24; (with_reducible refine (HK.out _ K4.out).mono ?_); rintro e w5 ⟨rfl, h⟩; have K5 := Lib.hid h; clear h))
      try go_ret
      first
        | exact hD.out _ _ ⟨rfl, K5.out.1⟩
        | exact hD.out _ _ ⟨ret_bool (show (!decide (Y < X)) = true by simp; omega), K5.out.1⟩

theorem law_reqNewer {H : Type} {enc : TypeId × Value → H} (W : World) (base : Nat) (args : Array Value) (ds : List (DataW H)) (p : List MemPlace)
    (hval : ∀ (j : Nat) t v, Try.f7.params[j]? = some t → args[j]? = some v → Value.okWide Try.prog W .any base t v)
    (hA : DataW.TrodAll enc Try.prog W 0 (fun _ => true) true Try.f7.params.toList args.toList ds p) :
    Calls Try.prog 7 args W fun e W' => e = .returned (.bool true) ∧ Below W.heap.size W W' := by
  rw [Try.params7] at hA hval
  obtain ⟨v0, vs0, d0, ds0, p0, q0, hargs, rfl, rfl, h0, r0⟩ := trodAll_cons hA
  obtain ⟨v1, vs1, d1, ds1, p1, q1, rfl, rfl, rfl, h1, r1⟩ := trodAll_cons r0
  obtain ⟨v2, vs2, d2, ds2, p2, q2, rfl, rfl, rfl, h2, r2⟩ := trodAll_cons r1
  obtain ⟨rfl, rfl, rfl⟩ := trodAll_nil r2
  obtain rfl : args = #[v0, v1, v2] := by cases args; simp_all
  obtain ⟨a0, rfl, rfl, rfl, w0⟩ := open_int Try.underlying3 (hval 0 3 v0 rfl rfl) h0
  obtain ⟨a1, rfl, rfl, rfl, w1⟩ := open_int Try.underlying3 (hval 1 3 v1 rfl rfl) h1
  obtain ⟨a2, rfl, rfl, rfl, w2⟩ := open_int Try.underlying3 (hval 2 3 v2 rfl rfl) h2
  exact walk_reqNewer a0 a1 a2 W
end Go.Proofs.Ytbjekbbokhjfmaa
