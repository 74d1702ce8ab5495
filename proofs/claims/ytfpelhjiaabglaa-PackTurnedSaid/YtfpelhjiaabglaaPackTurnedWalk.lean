/-
  The walk of the law PackTurned.
-/
import Derived.Test.YtfpelhjiaabglaaTurn
namespace Go.Proofs.Ytfpelhjiaabglaa
set_option linter.unusedVariables false
set_option linter.unusedSimpArgs false
open Go.RowKit Go.ChangeShapes Go.WideShapes

set_option maxRecDepth 8000 in
set_option maxHeartbeats 4000000 in
theorem walk_packTurned (A : Option Addr) (cap : Nat) (l : List UInt8) (at_ x : Int) (w : World) (hl : l.length ≤ 9223372036854775807) (hs : Sl u8 w A l) (hx12 : 0 ≤ x ∧ x ≤ 255) :
    Calls Try.prog 7 #[.slice A l.length cap, .int .i64 at_, .int .u8 x] w fun e w' => e = .returned (.bool true) ∧ Below w.heap.size w w' := by
  refine hide_post fun D hD => ?_
  have HTO : Hid (∀ V, Calls Try.prog 15 #[] V fun e w' => e = .returned (.bool true) ∧ Ext V w') := told1
  by_cases h0 : l.length = 0
  · obtain rfl : l = [] := List.eq_nil_of_length_eq_zero h0
    have hz : (([] : List UInt8).length : Int) = 0 := rfl
    go_enter Try.func7, Try.ntmps7
    go_wp2_with (go_at_call 15; (with_reducible refine (HTO.out _).mono ?_); rintro e w1 ⟨rfl, hx⟩; have HX := Lib.hid hx; clear hx)
    try go_ret
    exact hD.out _ _ ⟨rfl, HX.out⟩
  by_cases h : (600 : Int) < (l.length : Int)
  · have h1 : ¬ (l.length : Int) = 0 := by omega
    go_enter Try.func7, Try.ntmps7
    go_wp2_with (go_at_call 15; (with_reducible refine (HTO.out _).mono ?_); rintro e w1 ⟨rfl, hx⟩; have HX := Lib.hid hx; clear hx)
    try go_ret
    exact hD.out _ _ ⟨rfl, HX.out⟩
  · have h1 : ¬ (l.length : Int) = 0 := by omega
    have hm := Lib.hid (World.ownsRow_made (base := w.heap.size) (e := 5) (size := 1) w #[] 0 (Nat.le_refl _) (Nat.zero_le _) rfl)
    have HS : Hid (Sl u8 (w.alloc (.cells #[] 5)) A l) := hs.stay (Ext.alloc _ _)
    have HS0 := Lib.hid hs
    obtain ⟨X, rfl⟩ : ∃ X : UInt8, x = (X.toNat : Int) := ⟨UInt8.ofNat x.toNat, by rw [UInt8.toNat_ofNat']; omega⟩
    clear hs
    obtain ⟨k, hk, hk2⟩ : ∃ k : Nat, k < l.length ∧ (IntKind.u64.wrap at_).tmod (l.length : Int) = (k : Int) := by
      have hw : 0 ≤ IntKind.u64.wrap at_ := by
        rw [show IntKind.u64.wrap at_ = at_ % 18446744073709551616 by simp [IntKind.wrap, IntKind.bits, IntKind.signed]]; omega
      have e := Int.tmod_eq_emod_of_nonneg (b := (l.length : Int)) hw
      have e2 := Int.emod_nonneg (IntKind.u64.wrap at_) h1
      have e3 := Int.emod_lt_of_pos (IntKind.u64.wrap at_) (show (0 : Int) < (l.length : Int) by omega)
      exact ⟨((IntKind.u64.wrap at_).tmod (l.length : Int)).toNat, by omega, by omega⟩
    go_enter Try.func7, Try.ntmps7
    obtain ⟨c, hc⟩ : ∃ c, c = l[k] := ⟨_, rfl⟩
    have HC := Lib.hid hc.symm
    have hxo : bits BinOp.xor IntKind.u8 (c.toNat : Int) (X.toNat : Int) = ((c ^^^ X).toNat : Int) := by rw [u8_xor_nat _ _ c.toNat_lt X.toNat_lt, UInt8.toNat_xor]
    have HQ : Hid (crcN l = crcN (l.set k (c ^^^ X)) ↔ X = 0) := by (show _ ↔ _); rw [hc]; exact turned l k hk X
    clear hc
    generalize c ^^^ X = y at *
    go_wp2_with (at_builtin; refine wpList_append_list rfl _ _ 24 rfl w.heap.size 5 (.int .u8 0) 1 Try.underlying24 info_byte rfl (by omega) (.slice (some ⟨w.heap.size, 0, none⟩) 0 0) 0 [] rfl hm.out u8 A l l.length cap rfl rfl HS.out (fun _ => rfl) (by omega) (by simp) ?_; intro v' w' h1 h2 h3; rw [Nat.zero_add, List.nil_append] at h1; have H1 := Lib.hid h1; have H2 := Lib.hid h2; clear h1 h2 h3; obtain ⟨g, c2, cur, rfl, hgb, KB, hck, hc2⟩ := own_at (k := k) H1.out hk; have ck := KB.cell k; rw [hck] at ck; replace ck : w'.cell? ⟨g, k, none⟩ = some (.int .u8 (c.toNat : Int)) := ck.trans (by (show some (u8 l[k]) = _); rw [HC.out]; rfl); have fk := KB.frozen k; clear hck)
    have ho := own_set H1.out hk y
    obtain ⟨A', c', e, hsl⟩ := own_view ho
    injection e with e1 e2 e3
    subst e1
    clear e2 e3 c'
    obtain ⟨W0, hW0⟩ : ∃ W0, W0 = w'.setCell ⟨g, k, none⟩ (.int .u8 (y.toNat : Int)) := ⟨_, rfl⟩
    change Sl u8 (w'.setCell ⟨g, k, none⟩ (.int .u8 (y.toNat : Int))) _ _ at hsl
    rw [← hW0] at hsl
    have hx0 : Below w.heap.size w W0 := by
      rw [hW0]
      exact (((Below.refl _ _).alloc (Nat.le_refl _) _).grown (row := some w.heap.size) H2.out (by simp) (fun k hk => by injection hk with hk; omega)).setCell (p := ⟨g, k, none⟩) hgb _
    rw [← hW0]
    have HX0 := Lib.hid hx0
    have HT1 : Hid (∀ V, Ext W0 V → Calls Try.prog 15 #[] V fun e w' => e = .returned (.bool true) ∧ Ext V w') := fun V _ => HTO.out V
    have HC1 : Hid (∀ V, Ext W0 V → Calls Try.prog 32 #[.slice A l.length cap] V fun e w' => e = .returned (.int .u32 (crcN l)) ∧ Ext V w') := fun V h => crc_any A cap l V (HS0.out.stay (Below.step HX0.out h)) (by omega)
    have HC2 : Hid (∀ V, Ext W0 V → Calls Try.prog 32 #[.slice (some ⟨g, 0, none⟩) l.length c2] V fun e w' => e = .returned (.int .u32 (crcN (l.set k y))) ∧ Ext V w') := fun V h => by
      have := crc_any (some ⟨g, 0, none⟩) c2 (l.set k y) V (hsl.stay h) (by simp; omega)
      rwa [List.length_set] at this
    have E0 : Hid (Ext W0 W0) := Ext.refl _
    clear hsl hx0 hW0 ho ck fk KB H1 H2 HS hm HS0
    generalize crcN l = c1 at *
    generalize crcN (l.set k y) = d1 at *
    by_cases hX : X = 0
    · obtain rfl := HQ.out.2 hX
      have hX2 : X.toNat = 0 := by rw [hX]; rfl
      clear HQ hX
      go_wp2_with (first
        | (go_at_call 15; (with_reducible refine (HT1.out _ (Ext.refl _)).mono ?_); rintro e w5 ⟨rfl, hx⟩; have h5 : Ext W0 w5 := hx; clear hx)
        | (go_at_call 32; (with_reducible refine (HC1.out _ h5).mono ?_); rintro e w6 ⟨rfl, hx⟩; have h6 : Ext W0 w6 := Ext.trans h5 hx; clear hx)
        | (go_at_call 32; (with_reducible refine (HC2.out _ h6).mono ?_); rintro e w7 ⟨rfl, hx⟩; have h7 : Ext W0 w7 := Ext.trans h6 hx; clear hx))
      try go_ret
      exact hD.out _ _ ⟨rfl, Below.step HX0.out h7⟩
    · have hn : ¬ c1 = d1 := fun e => hX (HQ.out.1 e)
      have hX2 : ¬ X.toNat = 0 := fun e => hX (UInt8.toNat_inj.1 e)
      clear HQ hX
      go_wp2_with (first
        | (go_at_call 15; (with_reducible refine (HT1.out _ (Ext.refl _)).mono ?_); rintro e w5 ⟨rfl, hx⟩; have h5 : Ext W0 w5 := hx; clear hx)
        | (go_at_call 32; (with_reducible refine (HC1.out _ h5).mono ?_); rintro e w6 ⟨rfl, hx⟩; have h6 : Ext W0 w6 := Ext.trans h5 hx; clear hx)
        | (go_at_call 32; (with_reducible refine (HC2.out _ h6).mono ?_); rintro e w7 ⟨rfl, hx⟩; have h7 : Ext W0 w7 := Ext.trans h6 hx; clear hx))
      try go_ret
      have q1 : ((c1 : Int) == (d1 : Int)) = false := by rw [beq_eq_false_iff_ne]; omega
      have q2 : ((X.toNat : Int) == 0) = false := by rw [beq_eq_false_iff_ne]; omega
      exact hD.out _ _ ⟨by (show Ending.returned (Value.bool (((c1 : Int) == (d1 : Int)) == ((X.toNat : Int) == 0))) = _); rw [q1, q2]; rfl, Below.step HX0.out h7⟩
set_option maxRecDepth 100000 in
theorem law_packTurned {H : Type} {enc : TypeId × Value → H} (W : World) (base : Nat) (args : Array Value) (ds : List (DataW H)) (p : List MemPlace)
    (hval : ∀ (j : Nat) t v, Try.f7.params[j]? = some t → args[j]? = some v → Value.okWide Try.prog W .any base t v)
    (hA : DataW.TrodAll enc Try.prog W 0 (fun _ => true) true Try.f7.params.toList args.toList ds p) :
    Calls Try.prog 7 args W fun e W' => e = .returned (.bool true) ∧ Below W.heap.size W W' := by
  rw [Try.params7] at hA hval
  obtain ⟨v0, vs0, d0, ds0, p0, q0, hargs, rfl, rfl, h0, r0⟩ := trodAll_cons hA
  obtain ⟨v1, vs1, d1, ds1, p1, q1, rfl, rfl, rfl, h1, r1⟩ := trodAll_cons r0
  obtain ⟨v2, vs2, d2, ds2, p2, q2, rfl, rfl, rfl, h2, r2⟩ := trodAll_cons r1
  obtain ⟨rfl, rfl, rfl⟩ := trodAll_nil r2
  obtain rfl : args = #[v0, v1, v2] := by cases args; simp_all
  obtain ⟨A0, n0, c0, rfl⟩ := okWide_slice Try.underlying24 (hval 0 24 v0 rfl rfl)
  obtain ⟨fuel0, hf0⟩ := h0
  obtain ⟨B0, e0, l0, hcs0, x0, y0, z0⟩ := trod_bytes_sl Try.underlying24 Try.underlying5 cells_byte hf0
  simp only [Value.cells, List.cons.injEq, Value.slice.injEq, and_true] at hcs0
  obtain ⟨rfl, rfl, rfl⟩ := hcs0
  obtain ⟨a1, rfl, rfl, rfl, w1⟩ := open_int Try.underlying3 (hval 1 3 v1 rfl rfl) h1
  obtain ⟨a2, rfl, rfl, rfl, w2⟩ := open_int Try.underlying5 (hval 2 5 v2 rfl rfl) h2
  exact walk_packTurned A0 c0 l0 a1 a2 W (Nat.le_trans x0 y0) z0 (bounds_u8 w2)

end Go.Proofs.Ytfpelhjiaabglaa
