/-
  The walk of the law DiskStays.
-/
import Derived.Test.YtbjekbbokhjfmaaToldDisk
import Derived.Laws.Concat
namespace Go.Proofs.Ytbjekbbokhjfmaa
set_option linter.unusedVariables false
set_option linter.unusedSimpArgs false
open Go.RowKit Go.ChangeShapes Go.WideShapes

theorem str_append (a b : List UInt8) : str (a ++ b) = str a ++ str b := by
  apply ByteArray.ext
  rw [ByteArray.data_append]
  simp [str]

theorem keep_stays (a b : List UInt8) (keep : Int) (k : Nat) (hk : (k : Int) = max 0 (min keep b.length)) : keepN (a ++ b).length a.length keep = a.length + k ∧ (a ++ b).take (a.length + k) = a ++ b.take k ∧ k ≤ b.length := by
  refine ⟨by unfold keepN; simp only [List.length_append]; omega, by rw [List.take_append]; simp [List.take_of_length_le (show a.length ≤ a.length + k by omega)], by omega⟩

set_option maxHeartbeats 8000000 in
theorem walk_diskStays (A0 : Option Addr) (c0 : Nat) (l0 : List UInt8) (A1 : Option Addr) (c1 : Nat) (l1 : List UInt8) (keep : Int) (w : World) (hc0 : l0.length ≤ maxLen) (hs0 : Sl u8 w A0 l0) (hc1 : l1.length ≤ maxLen) (hcap : l1.length ≤ c1) (hs1 : Sl u8 w A1 l1) :
    Calls Try.prog 12 #[.slice A0 l0.length c0, .slice A1 l1.length c1, .int .i64 keep] w fun e w' => e = .returned (.bool true) ∧ Below w.heap.size w w' := by
  refine hide_post fun D hD => ?_
  unfold maxLen at hc0 hc1
  by_cases hbig : 200 < l0.length ∨ 200 < l1.length
  · clear hs0 hs1
    generalize l0.length = n0 at *
    generalize l1.length = n1 at *
    by_cases h0 : 200 < n0
    · go_enter Try.func12, Try.ntmps12
      go_wp2_with (first
        | (go_at_call 31; (with_reducible refine (dk_new w _ (Below.refl _ _)).mono ?_); rintro e w1 ⟨rfl, _, hb1⟩; have HB1 := Lib.hid hb1; clear hb1)
        | (go_at_call 32; (with_reducible refine (told_disk _).mono ?_); rintro e w2 ⟨rfl, hb2⟩; have HB2 := Lib.hid hb2; clear hb2))
      try go_ret
      exact hD.out _ _ ⟨rfl, Below.step HB1.out HB2.out⟩
    · have h1 : 200 < n1 := by omega
      go_enter Try.func12, Try.ntmps12
      go_wp2_with (first
        | (go_at_call 31; (with_reducible refine (dk_new w _ (Below.refl _ _)).mono ?_); rintro e w1 ⟨rfl, _, hb1⟩; have HB1 := Lib.hid hb1; clear hb1)
        | (go_at_call 32; (with_reducible refine (told_disk _).mono ?_); rintro e w2 ⟨rfl, hb2⟩; have HB2 := Lib.hid hb2; clear hb2))
      try go_ret
      exact hD.out _ _ ⟨rfl, Below.step HB1.out HB2.out⟩
  · have h0 : l0.length ≤ 200 := by omega
    have h1 : l1.length ≤ 200 := by omega
    clear hbig hc0 hc1
    obtain ⟨kk, hkk⟩ : ∃ kk : Nat, (kk : Int) = max 0 (min keep l1.length) := ⟨(max 0 (min keep l1.length)).toNat, by omega⟩
    obtain ⟨q1, q2, q3⟩ := keep_stays l0 l1 keep kk hkk
    have HA0 : Hid (∀ w1 P, Dk w w1 P [] 0 → Calls Try.prog 33 #[.pointer (some ⟨P, 0, none⟩), .slice A0 l0.length c0] w1 fun e w' => e = .returned (.tuple #[]) ∧ Dk w w' P l0 0) :=
      fun w1 P H => (dk_append H A0 c0 l0 (hs0.stay H.1) (by simp; omega)).mono fun _ _ ⟨he, h, _⟩ => ⟨he, h⟩
    have HS : Hid (∀ w1 P, Dk w w1 P l0 0 → Calls Try.prog 34 #[.pointer (some ⟨P, 0, none⟩)] w1 fun e w' => e = .returned (.tuple #[]) ∧ Dk w w' P l0 l0.length) :=
      fun w1 P H => (dk_sync H (by omega)).mono fun _ _ ⟨he, h, _⟩ => ⟨he, h⟩
    have HA1 : Hid (∀ w1 P, Dk w w1 P l0 l0.length → Calls Try.prog 33 #[.pointer (some ⟨P, 0, none⟩), .slice A1 l1.length c1] w1 fun e w' => e = .returned (.tuple #[]) ∧ Dk w w' P (l0 ++ l1) l0.length) :=
      fun w1 P H => (dk_append H A1 c1 l1 (hs1.stay H.1) (by omega)).mono fun _ _ ⟨he, h, _⟩ => ⟨he, h⟩
    have HY : Hid (∀ w1 P, Dk w w1 P (l0 ++ l1) l0.length → Calls Try.prog 41 #[.pointer (some ⟨P, 0, none⟩)] w1 fun e w' => e = .returned (.int .i64 l0.length) ∧ w1 = w') := fun w1 P H => dk_synced H
    have HC : Hid (∀ w1 P, Dk w w1 P (l0 ++ l1) l0.length → Calls Try.prog 36 #[.pointer (some ⟨P, 0, none⟩), .int .i64 keep] w1 fun e w' => e = .returned (.tuple #[]) ∧ Dk w w' P (l0 ++ l1.take kk) (l0.length + kk)) :=
      fun w1 P H => (dk_crash H keep (by simp; omega)).mono fun _ _ ⟨he, h, _⟩ => ⟨he, by rw [q1, q2] at h; exact h⟩
    have hlen : (l0 ++ l1.take kk).length = l0.length + kk := by simp; omega
    have HTO : Hid (∀ w1 P, Dk w w1 P (l0 ++ l1.take kk) (l0.length + kk) → Calls Try.prog 32 #[] w1 fun e w' => e = .returned (.bool true) ∧ Ext w1 w' ∧ Dk w w' P (l0 ++ l1.take kk) (l0.length + kk) ∧
        (∀ W, Ext w' W → (convert 56 9 (.slice A0 l0.length c0)).run Try.prog W = .ok (.string (str l0)) W) ∧
        (∀ W, Ext w' W → (convert 56 9 (.slice A1 kk c1)).run Try.prog W = .ok (.string (str (l1.take kk))) W)) := fun w1 P H => (told_disk w1).mono fun _ w' ⟨he, h⟩ => by
      refine ⟨he, h, H.stay h, fun W hW => ?_, fun W hW => ?_⟩
      · exact run_str _ _ 5 _ l0 _ Try.underlying56 Try.underlying5 Try.underlying9 (hs0.stay (Below.step (Below.step H.1 h) hW))
      · have := run_str (P := Try.prog) 56 9 5 A1 (l1.take kk) c1 Try.underlying56 Try.underlying5 Try.underlying9 (w := W) (fun j v hj => by
          rw [List.getElem?_take] at hj
          split at hj
          · exact (hs1.stay (Below.step (Below.step H.1 h) hW)) j v hj
          · cases hj)
        rwa [show (l1.take kk).length = kk by simp; omega] at this
    have HBY : Hid (∀ w1 P, Dk w w1 P (l0 ++ l1.take kk) (l0.length + kk) → Calls Try.prog 39 #[.pointer (some ⟨P, 0, none⟩)] w1 fun e w' => ∃ A n, e = .returned (.slice A n n) ∧ Ext w1 w' ∧ Dk w w' P (l0 ++ l1.take kk) (l0.length + kk) ∧
        (∀ W, Ext w' W → (convert 56 9 (.slice A n n)).run Try.prog W = .ok (.string (str (l0 ++ l1.take kk))) W)) := fun w1 P H => (dk_bytes' H (by omega)).mono fun e w' ⟨A, he, h, h2⟩ => ⟨A, _, he, h, H.stay h, h2⟩
    have HSY : Hid (∀ w1 P, Dk w w1 P (l0 ++ l1.take kk) (l0.length + kk) → Calls Try.prog 41 #[.pointer (some ⟨P, 0, none⟩)] w1 fun e w' => e = .returned (.int .i64 (l0.length + kk : Nat)) ∧ w1 = w') := fun w1 P H => dk_synced H
    have HLN : Hid (∀ w1 P, Dk w w1 P (l0 ++ l1.take kk) (l0.length + kk) → Calls Try.prog 40 #[.pointer (some ⟨P, 0, none⟩)] w1 fun e w' => e = .returned (.int .i64 (l0.length + kk : Nat)) ∧ w1 = w') := fun w1 P H => by
      have := dk_len H (by omega)
      rwa [hlen] at this
    have hstr : str (l0 ++ l1.take kk) = str l0 ++ str (l1.take kk) := str_append _ _
    have hz0 : ¬ 9223372036854775807 < (str l0).size + (str (l1.take kk)).size := by rw [str_size, str_size, List.length_take]; omega
    have hz1 : (0 : Int) ≤ (kk : Int) := by omega
    have hz2 : (kk : Int) ≤ (l1.length : Int) := by omega
    have hz3 : (kk : Int) ≤ (c1 : Int) := by omega
    rw [hstr] at HBY
    clear hstr
    clear hs0 hs1 q1 q2 hlen
    generalize hT : l0 ++ l1.take kk = T at *
    generalize hT2 : l1.take kk = T2 at *
    clear hT hT2
    generalize l0.length = n0 at *
    generalize l1.length = n1 at *
    generalize hM : n0 + kk = M at *
    generalize str l0 = s0 at *
    generalize str T2 = s2 at *
    have hcs : (n1 < keep ∧ n1 = 0 ∧ kk = 0) ∨ (n1 < keep ∧ 0 < n1 ∧ kk = n1) ∨ (keep ≤ n1 ∧ keep ≤ 0 ∧ kk = 0) ∨ (keep ≤ n1 ∧ 0 < keep ∧ keep = kk) := by omega
    clear hkk hM
    rcases hcs with ⟨g1, rfl, rfl⟩ | ⟨g1, g2, rfl⟩ | ⟨g1, g2, rfl⟩ | ⟨g1, g2, rfl⟩
    all_goals
      go_enter Try.func12, Try.ntmps12
      go_wp2_with (first
      | (go_at_call 31; (with_reducible refine (dk_new w _ (Below.refl _ _)).mono ?_); rintro e w1 ⟨rfl, h, _⟩; have K1 := Lib.hid h; clear h)
      | (go_at_call 33; (with_reducible refine (HA0.out _ _ K1.out).mono ?_); rintro e w2 ⟨rfl, h⟩; have K2 := Lib.hid h; clear h)
      | (go_at_call 34; (with_reducible refine (HS.out _ _ K2.out).mono ?_); rintro e w3 ⟨rfl, h⟩; have K3 := Lib.hid h; clear h)
      | (go_at_call 33; (with_reducible refine (HA1.out _ _ K3.out).mono ?_); rintro e w4 ⟨rfl, h⟩; have K4 := Lib.hid h; clear h)
      | (go_at_call 41; (with_reducible refine (HY.out _ _ K4.out).mono ?_); rintro e w5 ⟨rfl, rfl⟩)
      | (go_at_call 36; (with_reducible refine (HC.out _ _ K4.out).mono ?_); rintro e w5 ⟨rfl, h⟩; have K5 := Lib.hid h; clear h))
      have K5d : Hid (Dk w w5.drew w.heap.size T M) := K5.out.stay (Below.refl _ _).drew
      refine ext_begin (by kernel_rfl) ?_
      refine ext_call (i := 0) rfl (by kernel_rfl) (by rfl) (fun K hK => ?_)
      go_simp
      (go_at_call 32; (with_reducible refine (HTO.out _ _ K5d.out).mono ?_); rintro e w6 ⟨rfl, hx, h, z2, z3⟩; have K6 := Lib.hid h; clear h; refine hK _ _ hx ?_; clear hK)
      try simp only [Act.put, List.setIfInBounds_toArray, List.set_cons_zero, List.set_cons_succ]
      refine ext_take (i := 1) (v := ?_) rfl (by kernel_rfl) (by kernel_rfl) (by kernel_rfl) (fun _ _ _ h => h) (by rfl) ?_ ?_
      rotate_left
      · intro W hW; go_simp <;> with_reducible rfl
      try simp only [Act.put, List.setIfInBounds_toArray, List.set_cons_zero, List.set_cons_succ]
      refine ext_take (i := 2) (v := ?_) rfl (by kernel_rfl) (by kernel_rfl) (by kernel_rfl) (fun _ _ _ h => h) (by rfl) ?_ ?_
      rotate_left
      · intro W hW; go_simp <;> with_reducible rfl
      try simp only [Act.put, List.setIfInBounds_toArray, List.set_cons_zero, List.set_cons_succ]
      refine ext_take (i := 3) (v := ?_) rfl (by kernel_rfl) (by kernel_rfl) (by kernel_rfl) (fun _ _ _ h => h) (by rfl) ?_ ?_
      rotate_left
      · intro W hW; go_simp <;> with_reducible rfl
      try simp only [Act.put, List.setIfInBounds_toArray, List.set_cons_zero, List.set_cons_succ]
      refine ext_take (i := 4) (v := ?_) rfl (by kernel_rfl) (by kernel_rfl) (by kernel_rfl) (fun _ _ _ h => h) (by rfl) ?_ ?_
      rotate_left
      · intro W hW; go_simp <;> with_reducible rfl
      try simp only [Act.put, List.setIfInBounds_toArray, List.set_cons_zero, List.set_cons_succ]
      refine ext_take (i := 5) (v := ?_) rfl (by kernel_rfl) (by kernel_rfl) (by kernel_rfl) (fun _ _ _ h => h) (by rfl) ?_ ?_
      rotate_left
      · intro W hW; go_simp <;> with_reducible rfl
      try simp only [Act.put, List.setIfInBounds_toArray, List.set_cons_zero, List.set_cons_succ]
      refine ext_take (i := 6) (v := ?_) rfl (by kernel_rfl) (by kernel_rfl) (by kernel_rfl) (fun _ _ _ h => h) (by rfl) ?_ ?_
      rotate_left
      · intro W hW; go_simp <;> with_reducible rfl
      try simp only [Act.put, List.setIfInBounds_toArray, List.set_cons_zero, List.set_cons_succ]
      refine ext_take (i := 7) (v := ?_) rfl (by kernel_rfl) (by kernel_rfl) (by kernel_rfl) (fun _ _ _ h => h) (by rfl) ?_ ?_
      rotate_left
      · intro W hW; go_simp <;> with_reducible rfl
      try simp only [Act.put, List.setIfInBounds_toArray, List.set_cons_zero, List.set_cons_succ]
      refine ext_take (i := 8) (v := ?_) rfl (by kernel_rfl) (by kernel_rfl) (by kernel_rfl) (fun _ _ _ h => h) (by rfl) ?_ ?_
      rotate_left
      · intro W hW; go_simp <;> with_reducible rfl
      try simp only [Act.put, List.setIfInBounds_toArray, List.set_cons_zero, List.set_cons_succ]
      refine ext_take (i := 11) (v := ?_) rfl (by kernel_rfl) (by kernel_rfl) (by kernel_rfl) (fun _ _ _ h => h) (by rfl) ?_ ?_
      rotate_left
      · intro W hW; go_simp <;> with_reducible rfl
      try simp only [Act.put, List.setIfInBounds_toArray, List.set_cons_zero, List.set_cons_succ]
      refine ext_take (i := 12) (v := ?_) rfl (by kernel_rfl) (by kernel_rfl) (by kernel_rfl) (fun _ _ _ h => h) (by rfl) ?_ ?_
      rotate_left
      · intro W hW; go_simp <;> with_reducible rfl
      try simp only [Act.put, List.setIfInBounds_toArray, List.set_cons_zero, List.set_cons_succ]
      refine ext_take (i := 13) (v := ?_) rfl (by kernel_rfl) (by kernel_rfl) (by kernel_rfl) (fun _ _ _ h => h) (by rfl) ?_ ?_
      rotate_left
      · intro W hW; go_simp <;> with_reducible rfl
      try simp only [Act.put, List.setIfInBounds_toArray, List.set_cons_zero, List.set_cons_succ]
      refine ext_take (i := 14) (v := ?_) rfl (by kernel_rfl) (by kernel_rfl) (by kernel_rfl) (fun _ _ _ h => h) (by rfl) ?_ ?_
      rotate_left
      · intro W hW; go_simp <;> with_reducible rfl
      try simp only [Act.put, List.setIfInBounds_toArray, List.set_cons_zero, List.set_cons_succ]
      refine ext_take (i := 15) (v := ?_) rfl (by kernel_rfl) (by kernel_rfl) (by kernel_rfl) (fun _ _ _ h => h) (by rfl) ?_ ?_
      rotate_left
      · intro W hW; go_simp <;> with_reducible rfl
      try simp only [Act.put, List.setIfInBounds_toArray, List.set_cons_zero, List.set_cons_succ]
      refine ext_take (i := 16) (v := ?_) rfl (by kernel_rfl) (by kernel_rfl) (by kernel_rfl) (fun _ _ _ h => h) (by rfl) ?_ ?_
      rotate_left
      · intro W hW; go_simp <;> with_reducible rfl
      try simp only [Act.put, List.setIfInBounds_toArray, List.set_cons_zero, List.set_cons_succ]
      refine ext_take (i := 17) (v := ?_) rfl (by kernel_rfl) (by kernel_rfl) (by kernel_rfl) (fun _ _ _ h => h) (by rfl) ?_ ?_
      rotate_left
      · intro W hW; go_simp <;> with_reducible rfl
      try simp only [Act.put, List.setIfInBounds_toArray, List.set_cons_zero, List.set_cons_succ]
      refine ext_call (i := 9) rfl (by kernel_rfl) (by rfl) (fun K hK => ?_)
      go_simp
      (go_at_call 39; (with_reducible refine (HBY.out _ _ K6.out).mono ?_); rintro e w7 ⟨A, n, rfl, hx, h, z1⟩; have K7 := Lib.hid h; clear h; refine hK _ _ hx ?_; clear hK)
      try simp only [Act.put, List.setIfInBounds_toArray, List.set_cons_zero, List.set_cons_succ]
      refine ext_take (i := 10) (v := ?_) rfl (by kernel_rfl) (by kernel_rfl) (by kernel_rfl) (fun _ _ _ h => h) (by rfl) ?_ ?_
      rotate_left
      · intro W hW; go_simp <;> with_reducible rfl
      try simp only [Act.put, List.setIfInBounds_toArray, List.set_cons_zero, List.set_cons_succ]
      refine ext_take (i := 18) (v := ?_) rfl (by kernel_rfl) (by kernel_rfl) (by kernel_rfl) (fun _ _ _ h => h) (by rfl) ?_ ?_
      rotate_left
      · intro W hW; go_simp <;> with_reducible rfl
      try simp only [Act.put, List.setIfInBounds_toArray, List.set_cons_zero, List.set_cons_succ]
      refine ext_take (i := 19) (v := ?_) rfl (by kernel_rfl) (by kernel_rfl) (by kernel_rfl) (fun _ _ _ h => h) (by rfl) ?_ ?_
      rotate_left
      · intro W hW; go_simp <;> with_reducible rfl
      try simp only [Act.put, List.setIfInBounds_toArray, List.set_cons_zero, List.set_cons_succ]
      refine ext_take (i := 20) (v := ?_) rfl (by kernel_rfl) (by kernel_rfl) (by kernel_rfl) (fun _ _ _ h => h) (by rfl) ?_ ?_
      rotate_left
      · intro W hW; go_simp <;> with_reducible rfl
      try simp only [Act.put, List.setIfInBounds_toArray, List.set_cons_zero, List.set_cons_succ]
      refine ext_take (i := 21) (v := ?_) rfl (by kernel_rfl) (by kernel_rfl) (by kernel_rfl) (fun _ _ _ h => h) (by rfl) ?_ ?_
      rotate_left
      · intro W hW; go_simp <;> with_reducible rfl
      try simp only [Act.put, List.setIfInBounds_toArray, List.set_cons_zero, List.set_cons_succ]
      refine ext_take (i := 23) (v := ?_) rfl (by kernel_rfl) (by kernel_rfl) (by kernel_rfl) (fun _ _ _ h => h) (by rfl) ?_ ?_
      rotate_left
      · intro W hW; go_simp <;> with_reducible rfl
      try simp only [Act.put, List.setIfInBounds_toArray, List.set_cons_zero, List.set_cons_succ]
      refine ext_call (i := 22) rfl (by kernel_rfl) (by rfl) (fun K hK => ?_)
      go_simp
      (go_at_call 41; (with_reducible refine (HSY.out _ _ K7.out).mono ?_); rintro e w8 ⟨rfl, rfl⟩; refine hK _ _ (Ext.refl _) ?_; clear hK)
      try simp only [Act.put, List.setIfInBounds_toArray, List.set_cons_zero, List.set_cons_succ]
      refine ext_call (i := 24) rfl (by kernel_rfl) (by rfl) (fun K hK => ?_)
      go_simp
      (go_at_call 40; (with_reducible refine (HLN.out _ _ K7.out).mono ?_); rintro e w8 ⟨rfl, rfl⟩; refine hK _ _ (Ext.refl _) ?_; clear hK)
      try simp only [Act.put, List.setIfInBounds_toArray, List.set_cons_zero, List.set_cons_succ]
      refine ext_take (i := 25) (v := ?_) rfl (by kernel_rfl) (by kernel_rfl) (by kernel_rfl) (fun _ _ _ h => h) (by rfl) ?_ ?_
      rotate_left
      · intro W hW; go_simp <;> with_reducible rfl
      try simp only [Act.put, List.setIfInBounds_toArray, List.set_cons_zero, List.set_cons_succ]
      refine ext_take (i := 26) (v := ?_) rfl (by kernel_rfl) (by kernel_rfl) (by kernel_rfl) (fun _ _ _ h => h) (by rfl) ?_ ?_
      rotate_left
      · intro W hW; go_simp <;> with_reducible rfl
      try simp only [Act.put, List.setIfInBounds_toArray, List.set_cons_zero, List.set_cons_succ]
      refine ext_take (i := 27) (v := ?_) rfl (by kernel_rfl) (by kernel_rfl) (by kernel_rfl) (fun _ _ _ h => h) (by rfl) ?_ ?_
      rotate_left
      · intro W hW; go_simp <;> with_reducible rfl
      try simp only [Act.put, List.setIfInBounds_toArray, List.set_cons_zero, List.set_cons_succ]
      refine wpAnyH_done (by kernel_rfl) ?_ _
      all_goals try go_wp2
      all_goals try go_ret
      all_goals exact hD.out _ _ ⟨rfl, K7.out.1⟩

theorem law_diskStays {H : Type} {enc : TypeId × Value → H} (W : World) (base : Nat) (args : Array Value) (ds : List (DataW H)) (p : List MemPlace)
    (hval : ∀ (j : Nat) t v, Try.f12.params[j]? = some t → args[j]? = some v → Value.okWide Try.prog W .any base t v)
    (hA : DataW.TrodAll enc Try.prog W 0 (fun _ => true) true Try.f12.params.toList args.toList ds p) :
    Calls Try.prog 12 args W fun e W' => e = .returned (.bool true) ∧ Below W.heap.size W W' := by
  rw [Try.params12] at hA hval
  obtain ⟨v0, vs0, d0, ds0, p0, q0, hargs, rfl, rfl, h0, r0⟩ := trodAll_cons hA
  obtain ⟨v1, vs1, d1, ds1, p1, q1, rfl, rfl, rfl, h1, r1⟩ := trodAll_cons r0
  obtain ⟨v2, vs2, d2, ds2, p2, q2, rfl, rfl, rfl, h2, r2⟩ := trodAll_cons r1
  obtain ⟨rfl, rfl, rfl⟩ := trodAll_nil r2
  obtain rfl : args = #[v0, v1, v2] := by cases args; simp_all
  obtain ⟨A0, n0, c0, rfl⟩ := okWide_slice Try.underlying56 (hval 0 56 v0 rfl rfl)
  obtain ⟨fuel0, hf0⟩ := h0
  obtain ⟨B0, e0, l0, hcs0, x0, y0, z0⟩ := trod_bytes_sl Try.underlying56 Try.underlying5 cells_byte hf0
  simp only [Value.cells, List.cons.injEq, Value.slice.injEq, and_true] at hcs0
  obtain ⟨rfl, rfl, rfl⟩ := hcs0
  obtain ⟨A1, n1, c1, rfl⟩ := okWide_slice Try.underlying56 (hval 1 56 v1 rfl rfl)
  obtain ⟨fuel1, hf1⟩ := h1
  obtain ⟨B1, e1, l1, hcs1, x1, y1, z1⟩ := trod_bytes_sl Try.underlying56 Try.underlying5 cells_byte hf1
  simp only [Value.cells, List.cons.injEq, Value.slice.injEq, and_true] at hcs1
  obtain ⟨rfl, rfl, rfl⟩ := hcs1
  obtain ⟨a2, rfl, rfl, rfl, w2⟩ := open_int Try.underlying3 (hval 2 3 v2 rfl rfl) h2
  exact walk_diskStays A0 c0 l0 A1 c1 l1 a2 W (Nat.le_trans x0 y0) z0 (Nat.le_trans x1 y1) x1 z1
end Go.Proofs.Ytbjekbbokhjfmaa
