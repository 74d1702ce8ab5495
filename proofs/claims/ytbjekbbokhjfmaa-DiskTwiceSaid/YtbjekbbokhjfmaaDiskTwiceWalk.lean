/-
  The walk of the law DiskTwice.
-/
import Derived.Test.YtbjekbbokhjfmaaToldDisk
namespace Go.Proofs.Ytbjekbbokhjfmaa
set_option linter.unusedVariables false
set_option linter.unusedSimpArgs false
open Go.RowKit Go.ChangeShapes Go.WideShapes

theorem keep_all (n : Nat) (more : Int) : keepN n n more = n := by unfold keepN; omega

set_option maxHeartbeats 1000000 in
theorem walk_diskTwice (A0 : Option Addr) (c0 : Nat) (l0 : List UInt8) (A1 : Option Addr) (c1 : Nat) (l1 : List UInt8) (keep more : Int) (w : World) (hc0 : l0.length ≤ maxLen) (hs0 : Sl u8 w A0 l0) (hc1 : l1.length ≤ maxLen) (hs1 : Sl u8 w A1 l1) :
    Calls Try.prog 13 #[.slice A0 l0.length c0, .slice A1 l1.length c1, .int .i64 keep, .int .i64 more] w fun e w' => e = .returned (.bool true) ∧ Below w.heap.size w w' := by
  refine hide_post fun D hD => ?_
  unfold maxLen at hc0 hc1
  by_cases hbig : 100 < l0.length ∨ 100 < l1.length
  · clear hs0 hs1
    generalize l0.length = n0 at *
    generalize l1.length = n1 at *
    by_cases h0 : 100 < n0
    · go_enter Try.func13, Try.ntmps13
      go_wp2_with (first
        | (go_at_call 31; (with_reducible refine (dk_new w _ (Below.refl _ _)).mono ?_); rintro e w1 ⟨rfl, _, hb1⟩; have HB1 := Lib.hid hb1; clear hb1)
        | (go_at_call 32; (with_reducible refine (told_disk _).mono ?_); rintro e w2 ⟨rfl, hb2⟩; have HB2 := Lib.hid hb2; clear hb2))
      try go_ret
      exact hD.out _ _ ⟨rfl, Below.step HB1.out HB2.out⟩
    · have h1 : 100 < n1 := by omega
      go_enter Try.func13, Try.ntmps13
      go_wp2_with (first
        | (go_at_call 31; (with_reducible refine (dk_new w _ (Below.refl _ _)).mono ?_); rintro e w1 ⟨rfl, _, hb1⟩; have HB1 := Lib.hid hb1; clear hb1)
        | (go_at_call 32; (with_reducible refine (told_disk _).mono ?_); rintro e w2 ⟨rfl, hb2⟩; have HB2 := Lib.hid hb2; clear hb2))
      try go_ret
      exact hD.out _ _ ⟨rfl, Below.step HB1.out HB2.out⟩
  · have h0 : l0.length ≤ 100 := by omega
    have h1 : l1.length ≤ 100 := by omega
    clear hbig hc0 hc1
    obtain ⟨T, M, hTM, hM, hcr⟩ : ∃ (T : List UInt8) (M : Nat), T.length = M ∧ M ≤ 200 ∧ ∀ w1 P, Dk w w1 P (l0 ++ l1) l0.length → Calls Try.prog 36 #[.pointer (some ⟨P, 0, none⟩), .int .i64 keep] w1 fun e w' => e = .returned (.tuple #[]) ∧ Dk w w' P T M := by
      have hk : keepN (l0 ++ l1).length l0.length keep ≤ (l0 ++ l1).length := by unfold keepN; simp only [List.length_append]; omega
      refine ⟨(l0 ++ l1).take (keepN (l0 ++ l1).length l0.length keep), keepN (l0 ++ l1).length l0.length keep, by rw [List.length_take]; omega, by simp only [List.length_append] at hk ⊢; omega, fun w1 P H => ?_⟩
      exact (dk_crash H keep (by simp; omega)).mono fun _ _ ⟨he, h, _⟩ => ⟨he, h⟩
    have HA0 : Hid (∀ w1 P, Dk w w1 P [] 0 → Calls Try.prog 33 #[.pointer (some ⟨P, 0, none⟩), .slice A0 l0.length c0] w1 fun e w' => e = .returned (.tuple #[]) ∧ Dk w w' P l0 0) :=
      fun w1 P H => (dk_append H A0 c0 l0 (hs0.stay H.1) (by simp; omega)).mono fun _ _ ⟨he, h, _⟩ => ⟨he, h⟩
    have HS : Hid (∀ w1 P, Dk w w1 P l0 0 → Calls Try.prog 34 #[.pointer (some ⟨P, 0, none⟩)] w1 fun e w' => e = .returned (.tuple #[]) ∧ Dk w w' P l0 l0.length) :=
      fun w1 P H => (dk_sync H (by omega)).mono fun _ _ ⟨he, h, _⟩ => ⟨he, h⟩
    have HS2 : Hid (∀ w1 P, Dk w w1 P l0 l0.length → Calls Try.prog 34 #[.pointer (some ⟨P, 0, none⟩)] w1 fun e w' => e = .returned (.tuple #[]) ∧ Dk w w' P l0 l0.length) :=
      fun w1 P H => (dk_sync H (by omega)).mono fun _ _ ⟨he, h, _⟩ => ⟨he, h⟩
    have HA1 : Hid (∀ w1 P, Dk w w1 P l0 l0.length → Calls Try.prog 33 #[.pointer (some ⟨P, 0, none⟩), .slice A1 l1.length c1] w1 fun e w' => e = .returned (.tuple #[]) ∧ Dk w w' P (l0 ++ l1) l0.length) :=
      fun w1 P H => (dk_append H A1 c1 l1 (hs1.stay H.1) (by omega)).mono fun _ _ ⟨he, h, _⟩ => ⟨he, h⟩
    have HC : Hid (∀ w1 P, Dk w w1 P (l0 ++ l1) l0.length → Calls Try.prog 36 #[.pointer (some ⟨P, 0, none⟩), .int .i64 keep] w1 fun e w' => e = .returned (.tuple #[]) ∧ Dk w w' P T M) := hcr
    have HC2 : Hid (∀ w1 P, Dk w w1 P T M → Calls Try.prog 36 #[.pointer (some ⟨P, 0, none⟩), .int .i64 more] w1 fun e w' => e = .returned (.tuple #[]) ∧ Dk w w' P T M) := fun w1 P H =>
      (dk_crash H more (by omega)).mono fun _ _ ⟨he, h, _⟩ => ⟨he, by rw [hTM, keep_all, ← hTM, List.take_length] at h; rw [← hTM]; exact h⟩
    have HTO : Hid (∀ w1 P, Dk w w1 P T M → Calls Try.prog 32 #[] w1 fun e w' => e = .returned (.bool true) ∧ Dk w w' P T M) :=
      fun w1 P H => (told_disk w1).mono fun _ _ ⟨he, h⟩ => ⟨he, H.stay h⟩
    have HBY : Hid (∀ w1 P, Dk w w1 P T M → Calls Try.prog 39 #[.pointer (some ⟨P, 0, none⟩)] w1 fun e w' => ∃ n, e = .returned (.slice (some ⟨w1.heap.size, 0, none⟩) n n) ∧ Dk w w' P T M ∧
        (convert 56 9 (.slice (some ⟨w1.heap.size, 0, none⟩) n n)).run Try.prog w' = .ok (.string (str T)) w') :=
      fun w1 P H => (dk_bytes H (by omega)).mono fun e w' ⟨he, h, _, h2⟩ => ⟨_, he, H.stay h, h2⟩
    have HSY : Hid (∀ w1 P, Dk w w1 P T M → Calls Try.prog 41 #[.pointer (some ⟨P, 0, none⟩)] w1 fun e w' => e = .returned (.int .i64 M) ∧ w1 = w') := fun w1 P H => dk_synced H
    have HLN : Hid (∀ w1 P, Dk w w1 P T M → Calls Try.prog 40 #[.pointer (some ⟨P, 0, none⟩)] w1 fun e w' => e = .returned (.int .i64 M) ∧ w1 = w') := fun w1 P H => by
      have := dk_len H (by omega)
      rwa [hTM] at this
    have hsz : (str T).size = M := by rw [str_size, hTM]
    clear hs0 hs1 hcr hTM
    generalize str T = sT at *
    generalize l0.length = n0 at *
    generalize l1.length = n1 at *
    go_enter Try.func13, Try.ntmps13
    go_wp2_with (first
      | (go_at_call 31; (with_reducible refine (dk_new w _ (Below.refl _ _)).mono ?_); rintro e w1 ⟨rfl, h, _⟩; have K1 := Lib.hid h; clear h)
      | (go_at_call 33; (with_reducible refine (HA0.out _ _ K1.out).mono ?_); rintro e w2 ⟨rfl, h⟩; have K2 := Lib.hid h; clear h)
      | (go_at_call 34; (with_reducible refine (HS.out _ _ K2.out).mono ?_); rintro e w3 ⟨rfl, h⟩; have K3 := Lib.hid h; clear h)
      | (go_at_call 34; (with_reducible refine (HS2.out _ _ K3.out).mono ?_); rintro e w4 ⟨rfl, h⟩; have K4 := Lib.hid h; clear h)
      | (go_at_call 33; (with_reducible refine (HA1.out _ _ K4.out).mono ?_); rintro e w5 ⟨rfl, h⟩; have K5 := Lib.hid h; clear h)
      | (go_at_call 36; (with_reducible refine (HC.out _ _ K5.out).mono ?_); rintro e w6 ⟨rfl, h⟩; have K6 := Lib.hid h; clear h)
      | (go_at_call 39; (with_reducible refine (HBY.out _ _ K6.out).mono ?_); rintro e w7 ⟨n, rfl, h, z1⟩; have K7 := Lib.hid h; clear h)
      | (go_at_call 36; (with_reducible refine (HC2.out _ _ K7.out).mono ?_); rintro e w8 ⟨rfl, h⟩; have K8 := Lib.hid h; clear h)
      | (go_at_call 32; (with_reducible refine (HTO.out _ _ K8.out).mono ?_); rintro e w9 ⟨rfl, h⟩; have K9 := Lib.hid h; clear h)
      | (go_at_call 39; (with_reducible refine (HBY.out _ _ K9.out).mono ?_); rintro e w10 ⟨n, rfl, h, z2⟩; have K10 := Lib.hid h; clear h)
      | (go_at_call 41; (with_reducible refine (HSY.out _ _ K10.out).mono ?_); rintro e w11 ⟨rfl, rfl⟩)
      | (go_at_call 40; (with_reducible refine (HLN.out _ _ K10.out).mono ?_); rintro e w11 ⟨rfl, rfl⟩))
    all_goals try go_ret
    all_goals exact hD.out _ _ ⟨rfl, K10.out.1⟩

theorem law_diskTwice {H : Type} {enc : TypeId × Value → H} (W : World) (base : Nat) (args : Array Value) (ds : List (DataW H)) (p : List MemPlace)
    (hval : ∀ (j : Nat) t v, Try.f13.params[j]? = some t → args[j]? = some v → Value.okWide Try.prog W .any base t v)
    (hA : DataW.TrodAll enc Try.prog W 0 (fun _ => true) true Try.f13.params.toList args.toList ds p) :
    Calls Try.prog 13 args W fun e W' => e = .returned (.bool true) ∧ Below W.heap.size W W' := by
  rw [Try.params13] at hA hval
  obtain ⟨v0, vs0, d0, ds0, p0, q0, hargs, rfl, rfl, h0, r0⟩ := trodAll_cons hA
  obtain ⟨v1, vs1, d1, ds1, p1, q1, rfl, rfl, rfl, h1, r1⟩ := trodAll_cons r0
  obtain ⟨v2, vs2, d2, ds2, p2, q2, rfl, rfl, rfl, h2, r2⟩ := trodAll_cons r1
  obtain ⟨v3, vs3, d3, ds3, p3, q3, rfl, rfl, rfl, h3, r3⟩ := trodAll_cons r2
  obtain ⟨rfl, rfl, rfl⟩ := trodAll_nil r3
  obtain rfl : args = #[v0, v1, v2, v3] := by cases args; simp_all
  obtain ⟨A0, n0, c0, rfl⟩ := okWide_slice Try.underlying56 (hval 0 56 v0 rfl rfl)
  obtain ⟨fuel0, hf0⟩ := h0
  obtain ⟨B0, e0, l0, hcs0, x0, y0, z0⟩ := trod_bytes_sl Try.underlying56 Try.underlying5 cells_byte hf0
  simp only [Value.cells, List.cons.injEq, Value.slice.injEq, and_true] at hcs0
  obtain ⟨rfl, rfl, rfl⟩ := hcs0
  obtain ⟨A1, n1, c1, rfl⟩ := okWide_slice Try.underlying56 (hval 1 56 v1 rfl rfl)
  obtain ⟨fuel1, hf1⟩ := h1
  obtain ⟨B1, e1, l1, hcs1, x1, y1, z1⟩ := trod_bytes_sl Try.underlying56 Try.underlying5 cells_byte hf1
  simp only [Value.cells, List.cons.injEq, Value.slice.injEq, and_true] at hcs1
  obtain ⟨rfl, rfl, rfl⟩ := hcs1
  obtain ⟨a2, rfl, rfl, rfl, w2⟩ := open_int Try.underlying3 (hval 2 3 v2 rfl rfl) h2
  obtain ⟨a3, rfl, rfl, rfl, w3⟩ := open_int Try.underlying3 (hval 3 3 v3 rfl rfl) h3
  exact walk_diskTwice A0 c0 l0 A1 c1 l1 a2 a3 W (Nat.le_trans x0 y0) z0 (Nat.le_trans x1 y1) z1
end Go.Proofs.Ytbjekbbokhjfmaa
