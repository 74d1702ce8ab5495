/-
  The walk of the law PackSums.
-/
import Derived.Test.YtfpelhjiaabglaaRefCrc
namespace Go.Proofs.Ytfpelhjiaabglaa
set_option linter.unusedVariables false
set_option linter.unusedSimpArgs false
open Go.RowKit Go.ChangeShapes Go.WideShapes

set_option maxRecDepth 8000 in
set_option maxHeartbeats 4000000 in
theorem walk_packSums (A : Option Addr) (cap : Nat) (l : List UInt8) (w : World) (hl : l.length ≤ 9223372036854775807) (hs : Sl u8 w A l) :
    Calls Try.prog 6 #[.slice A l.length cap] w fun e w' => e = .returned (.bool true) ∧ Below w.heap.size w w' := by
  refine hide_post fun D hD => ?_
  have HTO : Hid (∀ V, Calls Try.prog 15 #[] V fun e w' => e = .returned (.bool true) ∧ Ext V w') := told1
  by_cases h : (600 : Int) < (l.length : Int)
  · go_enter Try.func6, Try.ntmps6
    go_wp2_with (go_at_call 15; (with_reducible refine (HTO.out _).mono ?_); rintro e w1 ⟨rfl, hx⟩; have HX := Lib.hid hx; clear hx)
    try go_ret
    exact hD.out _ _ ⟨rfl, HX.out⟩
  · have E0 : Hid (Ext w w) := Ext.refl _
    have HL : l.length ≤ 600 := by omega
    have HC1 : Hid (∀ V, Ext w V → Calls Try.prog 32 #[.slice A l.length cap] V fun e w' => e = .returned (.int .u32 (crcN l)) ∧ Ext V w') := fun V h => crc_any A cap l V (hs.stay h) (by omega)
    have HC2 : Hid (∀ V, Calls Try.prog 33 #[.string ⟨l.toArray⟩] V fun e w' => e = .returned (.int .u32 (crcN l)) ∧ V = w') := fun V => by
      have := refCrc_any ⟨l.toArray⟩ V (by show l.toArray.size ≤ _; simp; omega)
      simpa using this
    have HT1 : Hid (∀ V, Ext w V → Calls Try.prog 15 #[] V fun e w' => e = .returned (.bool true) ∧ Ext V w') := fun V _ => HTO.out V
    have HC3 : Hid (∀ V, Ext w V → Calls Try.prog 33 #[.string ⟨l.toArray⟩] V fun e w' => e = .returned (.int .u32 (crcN l)) ∧ Ext V w') := fun V _ => (HC2.out V).mono fun e w' ⟨h1, h2⟩ => ⟨h1, h2 ▸ Ext.refl _⟩
    have hcv : ∀ V, Ext w V → (convert 24 9 (.slice A l.length cap)).run Try.prog V = .ok (.string ⟨l.toArray⟩) V := fun V h => run_str (P := Try.prog) (w := V) 24 9 5 A l cap Try.underlying24 Try.underlying5 Try.underlying9 (hs.stay h)
    clear hs HC2 HL
    generalize crcN l = c at *
    go_enter Try.func6, Try.ntmps6
    go_wp2
    refine ext_begin (by kernel_rfl) ?_
    have E0d := Lib.hid (Ext.drewR E0.out)
    refine ext_call (i := 0) rfl (by kernel_rfl) (by rfl) (fun K' hK => ?_)
    go_simp
    (go_at_call 15; (with_reducible refine (HT1.out _ E0d.out).mono ?_); rintro e w5 ⟨rfl, hx⟩; refine hK _ _ hx ?_; clear hK)
    have Ew5 := Lib.hid (Ext.trans E0d.out hx)
    clear hx
    try simp only [Act.put, List.setIfInBounds_toArray, List.set_cons_zero, List.set_cons_succ]
    refine ext_take (i := 1) (v := ?_) rfl (by kernel_rfl) (by kernel_rfl) (by kernel_rfl) (fun _ _ _ h => h) (by rfl) ?_ ?_
    rotate_left
    · intro W hW; have hW0 := Ext.trans Ew5.out hW; clear hW; go_simp <;> with_reducible rfl
    try simp only [Act.put, List.setIfInBounds_toArray, List.set_cons_zero, List.set_cons_succ]
    refine ext_take (i := 2) (v := ?_) rfl (by kernel_rfl) (by kernel_rfl) (by kernel_rfl) (fun _ _ _ h => h) (by rfl) ?_ ?_
    rotate_left
    · intro W hW; have hW0 := Ext.trans Ew5.out hW; clear hW; go_simp <;> with_reducible rfl
    try simp only [Act.put, List.setIfInBounds_toArray, List.set_cons_zero, List.set_cons_succ]
    refine ext_take (i := 4) (v := ?_) rfl (by kernel_rfl) (by kernel_rfl) (by kernel_rfl) (fun _ _ _ h => h) (by rfl) ?_ ?_
    rotate_left
    · intro W hW; have hW0 := Ext.trans Ew5.out hW; clear hW; go_simp <;> with_reducible rfl
    try simp only [Act.put, List.setIfInBounds_toArray, List.set_cons_zero, List.set_cons_succ]
    refine ext_take (i := 5) (v := .string ⟨l.toArray⟩) rfl (by kernel_rfl) (by kernel_rfl) (by kernel_rfl) (fun _ _ _ h => h) (by rfl) ?_ ?_
    · intro W hW; have hW0 := Ext.trans Ew5.out hW; have hcw := hcv _ hW0; go_simp; first | done | exact hcw | (rw [hcw])
    try simp only [Act.put, List.setIfInBounds_toArray, List.set_cons_zero, List.set_cons_succ]
    refine ext_call (i := 3) rfl (by kernel_rfl) (by rfl) (fun K' hK => ?_)
    go_simp
    (go_at_call 32; (with_reducible refine (HC1.out _ Ew5.out).mono ?_); rintro e w6 ⟨rfl, hx⟩; refine hK _ _ hx ?_; clear hK)
    have Ew6 := Lib.hid (Ext.trans Ew5.out hx)
    clear hx
    try simp only [Act.put, List.setIfInBounds_toArray, List.set_cons_zero, List.set_cons_succ]
    refine ext_call (i := 6) rfl (by kernel_rfl) (by rfl) (fun K' hK => ?_)
    go_simp
    (go_at_call 33; (with_reducible refine (HC3.out _ Ew6.out).mono ?_); rintro e w7 ⟨rfl, hx⟩; refine hK _ _ hx ?_; clear hK)
    have Ew7 := Lib.hid (Ext.trans Ew6.out hx)
    clear hx
    try simp only [Act.put, List.setIfInBounds_toArray, List.set_cons_zero, List.set_cons_succ]
    refine ext_take (i := 7) (v := .bool true) rfl (by kernel_rfl) (by kernel_rfl) (by kernel_rfl) (fun _ _ _ h => h) (by rfl) ?_ ?_
    · intro W hW; have hW0 := Ext.trans Ew7.out hW; clear hW; go_simp
    try simp only [Act.put, List.setIfInBounds_toArray, List.set_cons_zero, List.set_cons_succ]
    refine ext_take (i := 8) (v := ?_) rfl (by kernel_rfl) (by kernel_rfl) (by kernel_rfl) (fun _ _ _ h => h) (by rfl) ?_ ?_
    rotate_left
    · intro W hW; have hW0 := Ext.trans Ew7.out hW; clear hW; go_simp <;> with_reducible rfl
    try simp only [Act.put, List.setIfInBounds_toArray, List.set_cons_zero, List.set_cons_succ]
    refine ext_take (i := 9) (v := ?_) rfl (by kernel_rfl) (by kernel_rfl) (by kernel_rfl) (fun _ _ _ h => h) (by rfl) ?_ ?_
    rotate_left
    · intro W hW; have hW0 := Ext.trans Ew7.out hW; clear hW; go_simp <;> with_reducible rfl
    try simp only [Act.put, List.setIfInBounds_toArray, List.set_cons_zero, List.set_cons_succ]
    refine wpAnyH_done (by kernel_rfl) ?_ _
    have EV := Lib.hid Ew7.out
    go_wp2
    try go_ret
    exact hD.out _ _ ⟨rfl, EV.out⟩
set_option maxRecDepth 100000 in
theorem law_packSums {H : Type} {enc : TypeId × Value → H} (W : World) (base : Nat) (args : Array Value) (ds : List (DataW H)) (p : List MemPlace)
    (hval : ∀ (j : Nat) t v, Try.f6.params[j]? = some t → args[j]? = some v → Value.okWide Try.prog W .any base t v)
    (hA : DataW.TrodAll enc Try.prog W 0 (fun _ => true) true Try.f6.params.toList args.toList ds p) :
    Calls Try.prog 6 args W fun e W' => e = .returned (.bool true) ∧ Below W.heap.size W W' := by
  rw [Try.params6] at hA hval
  obtain ⟨v0, vs0, d0, ds0, p0, q0, hargs, rfl, rfl, h0, r0⟩ := trodAll_cons hA
  obtain ⟨rfl, rfl, rfl⟩ := trodAll_nil r0
  obtain rfl : args = #[v0] := by cases args; simp_all
  obtain ⟨A0, n0, c0, rfl⟩ := okWide_slice Try.underlying24 (hval 0 24 v0 rfl rfl)
  obtain ⟨fuel0, hf0⟩ := h0
  obtain ⟨B0, e0, l0, hcs0, x0, y0, z0⟩ := trod_bytes_sl Try.underlying24 Try.underlying5 cells_byte hf0
  simp only [Value.cells, List.cons.injEq, Value.slice.injEq, and_true] at hcs0
  obtain ⟨rfl, rfl, rfl⟩ := hcs0
  exact walk_packSums A0 c0 l0 W (Nat.le_trans x0 y0) z0

end Go.Proofs.Ytfpelhjiaabglaa
