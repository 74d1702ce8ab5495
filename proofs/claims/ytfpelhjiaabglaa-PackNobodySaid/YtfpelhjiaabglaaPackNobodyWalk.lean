/-
  The walk of the law PackNobody.
-/
import Derived.Test.YtfpelhjiaabglaaTold1
namespace Go.Proofs.Ytfpelhjiaabglaa
set_option linter.unusedVariables false
set_option linter.unusedSimpArgs false
open Go.RowKit Go.ChangeShapes Go.WideShapes

set_option maxRecDepth 8000 in
set_option maxHeartbeats 4000000 in
theorem walk_packNobody (v : Int) (s : ByteArray) (w : World) (hs : s.size ≤ maxLen) :
    Calls Try.prog 9 #[.int .u64 v, .string s] w fun e w' => e = .returned (.bool true) ∧ Below w.heap.size w w' := by
  refine hide_post fun D hD => ?_
  have HTO : Hid (∀ V, Calls Try.prog 15 #[] V fun e w' => e = .returned (.bool true) ∧ Ext V w') := told1
  have HT5 : Hid (∀ V, Calls Try.prog 26 #[.pointer none, .int .i64 5] V fun e w' => e = .returned (.string ⟨#[]⟩) ∧ V = w') := fun V => textR_nil 5 V (by decide)
  unfold maxLen at hs

  by_cases h : (100 : Int) < (s.size : Int)
  · go_enter Try.func9, Try.ntmps9
    go_wp2_with (go_at_call 15; (with_reducible refine (HTO.out _).mono ?_); rintro e w1 ⟨rfl, hx⟩; have HX := Lib.hid hx; clear hx)
    try go_ret
    exact hD.out _ _ ⟨rfl, HX.out⟩
  · go_enter Try.func9, Try.ntmps9
    go_wp2_with (first
      | (go_at_call 16; (with_reducible refine (numW_nil _ _).mono ?_); rintro e w1 ⟨rfl, rfl⟩)
      | (go_at_call 18; (with_reducible refine (textW_nil _ _).mono ?_); rintro e w1 ⟨rfl, rfl⟩)
      | (go_at_call 20; (with_reducible refine (yesW_nil _ _).mono ?_); rintro e w1 ⟨rfl, rfl⟩)
      | (go_at_call 15; (with_reducible refine (HTO.out _).mono ?_); rintro e w2 ⟨rfl, hx⟩; have HX := Lib.hid hx; clear hx)
      | (go_at_call 24; (with_reducible refine (numR_nil _ _).mono ?_); rintro e w1 ⟨rfl, rfl⟩)
      | (go_at_call 26; (with_reducible refine (HT5.out _).mono ?_); rintro e w1 ⟨rfl, rfl⟩)
      | (go_at_call 28; (with_reducible refine (yesR_nil _).mono ?_); rintro e w1 ⟨rfl, rfl⟩)
      | (go_at_call 30; (with_reducible refine (endR_nil _).mono ?_); rintro e w1 ⟨rfl, rfl⟩)
      | (go_at_call 22; (with_reducible refine (bytes_nil _).mono ?_); rintro e w1 ⟨rfl, rfl⟩))
    try go_ret
    exact hD.out _ _ ⟨rfl, HX.out⟩

set_option maxRecDepth 100000 in
theorem law_packNobody {H : Type} {enc : TypeId × Value → H} (W : World) (base : Nat) (args : Array Value) (ds : List (DataW H)) (p : List MemPlace)
    (hval : ∀ (j : Nat) t v, Try.f9.params[j]? = some t → args[j]? = some v → Value.okWide Try.prog W .any base t v)
    (hA : DataW.TrodAll enc Try.prog W 0 (fun _ => true) true Try.f9.params.toList args.toList ds p) :
    Calls Try.prog 9 args W fun e W' => e = .returned (.bool true) ∧ Below W.heap.size W W' := by
  rw [Try.params9] at hA hval
  obtain ⟨v0, vs0, d0, ds0, p0, q0, hargs, rfl, rfl, h0, r0⟩ := trodAll_cons hA
  obtain ⟨v1, vs1, d1, ds1, p1, q1, rfl, rfl, rfl, h1, r1⟩ := trodAll_cons r0
  obtain ⟨rfl, rfl, rfl⟩ := trodAll_nil r1
  obtain rfl : args = #[v0, v1] := by cases args; simp_all
  obtain ⟨a0, rfl, rfl, rfl, w0⟩ := open_int Try.underlying27 (hval 0 27 v0 rfl rfl) h0
  obtain ⟨a1, rfl, rfl, rfl, w1⟩ := Go.ChangeMaps.open_string Try.underlying9 (hval 1 9 v1 rfl rfl) h1
  exact walk_packNobody a0 a1 W w1

end Go.Proofs.Ytfpelhjiaabglaa
