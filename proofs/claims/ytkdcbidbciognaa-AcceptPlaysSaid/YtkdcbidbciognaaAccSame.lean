/-
  An acceptor and the document's (law 13).
-/
import Derived.Test.YtkdcbidbciognaaAccRefB
import Derived.Test.YtkdcbidbciognaaSameVote
namespace Go.Proofs.Ytkdcbidbciognaa
set_option linter.unusedVariables false
set_option linter.unusedSimpArgs false
open Go.RowKit

set_option maxRecDepth 8000 in
set_option maxHeartbeats 16000000 in
theorem same13_any (a x : Nat) (v : AV) (w : World) (H : AAt w a v) (HX : XAt w x v) (K : AOk v) :
    Calls Try.prog 43 #[.pointer (some ⟨a, 0, none⟩), .pointer (some ⟨x, 0, none⟩)] w fun e w' => e = .returned (.bool true) ∧ Ext w w' := by
  refine hide_post fun D hD => ?_
  have hX := HX
  obtain ⟨kA, kc, vA, vc, kB, hk, hv⟩ := HX
  have hkl := K.kl
  have hvl := K.vl
  obtain ⟨SB, hSB⟩ : ∃ S, S = bytesA v := ⟨_, rfl⟩
  obtain ⟨sb, hsb⟩ : ∃ s, s = str SB := ⟨_, rfl⟩
  obtain ⟨ns, hns⟩ : ∃ n, n = SB.length := ⟨_, rfl⟩
  have C5 : Hid (∀ V, Ext w V → Calls Try.prog 37 #[.pointer (some ⟨a, 0, none⟩)] V fun e w' => ∃ A c, e = .returned (.slice A ns c) ∧ Sl u8 w' A SB ∧ Ext V w') := fun V h => by rw [hns, hSB]; exact bytesA_any a v V (H.stay h) K
  have C6 : Hid (∀ V, Ext w V → Calls Try.prog 81 #[.pointer (some ⟨x, 0, none⟩)] V fun e w' => e = .returned (.string sb) ∧ Ext V w') := fun V h => by rw [hsb, hSB]; exact rbytes_any x v V (hX.stay h) K
  have HCV : Hid (∀ V A c, Sl u8 V A SB → ∀ W, Ext V W → (convert 72 9 (.slice A ns c)).run Try.prog W = .ok (.string sb) W) := fun V A c h W hW => by rw [hns, hsb]; exact run_str _ _ 5 A SB c Try.underlying72 Try.underlying5 Try.underlying9 (h.stay hW)
  obtain ⟨n, kep, kns, pr, pn, ar, an, has, vep, vns⟩ := v
  simp only at hk hv hkl hvl
  have KB : Hid (Blk w x 80 #[.int .i64 n, .int .i64 kep, .slice kA kns.length kc, .int .i64 pr, .int .i64 pn, .int .i64 ar, .int .i64 an, .bool has, .int .i64 vep, .slice vA vns.length vc]) := kB
  obtain ⟨kn, hkn⟩ : ∃ k, k = kns.length := ⟨_, rfl⟩
  obtain ⟨vn, hvn⟩ : ∃ k, k = vns.length := ⟨_, rfl⟩
  have C1 : Hid (∀ V, Ext w V → Calls Try.prog 30 #[.pointer (some ⟨a, 0, none⟩)] V fun e w' => ∃ A c, e = .returned (.agg #[.int .i64 kep, .slice A kn c]) ∧ In w' A c kns ∧ Ext V w') := fun V h => by rw [hkn]; exact known_any a _ V (H.stay h) hkl
  have C2 : Hid (∀ V A c, Ext w V → In V A c kns → Calls Try.prog 23 #[.agg #[.int .i64 kep, .slice A kn c], .agg #[.int .i64 kep, .slice kA kn kc]] V fun e w' => e = .returned (.bool true) ∧ Ext V w') := fun V A c h hi => by rw [hkn]; exact (sameRef_any kep kep A kA c kc kns kns V (by omega) (by omega) hi.sl (hk.sl.stay h)).mono fun e w' ⟨h1, h2⟩ => ⟨by rw [h1]; simp, h2⟩
  have C3 : Hid (∀ V, Ext w V → Calls Try.prog 29 #[.pointer (some ⟨a, 0, none⟩)] V fun e w' => ∃ A c, e = .returned (.agg #[.int .i64 pr, .int .i64 pn, .int .i64 ar, .int .i64 an, .bool has, .int .i64 vep, .slice A vn c]) ∧ In w' A c vns ∧ Ext V w') := fun V h => by rw [hvn]; exact vote_any a _ V (H.stay h) hvl
  have C4 : Hid (∀ V A c, Ext w V → In V A c vns → Calls Try.prog 33 #[.agg #[.int .i64 pr, .int .i64 pn, .int .i64 ar, .int .i64 an, .bool has, .int .i64 vep, .slice A vn c], .agg #[.int .i64 pr, .int .i64 pn, .int .i64 ar, .int .i64 an, .bool has, .int .i64 vep, .slice vA vn vc]] V fun e w' => e = .returned (.bool true) ∧ Ext V w') := fun V A c h hi => by rw [hvn]; exact sameVote_eq pr pn ar an has vep A vA c vc vns V hvl hi.sl (hv.sl.stay h)
  rw [← hkn, ← hvn] at KB
  have y1 : ∀ V, Ext w V → V.cell? ⟨x, 1, none⟩ = some (.int .i64 kep) := fun V h => (KB.out.stay h).cell 1
  have y2 : ∀ V, Ext w V → V.cell? ⟨x, 2, none⟩ = some (.slice kA kn kc) := fun V h => (KB.out.stay h).cell 2
  have y3 : ∀ V, Ext w V → V.cell? ⟨x, 3, none⟩ = some (.int .i64 pr) := fun V h => (KB.out.stay h).cell 3
  have y4 : ∀ V, Ext w V → V.cell? ⟨x, 4, none⟩ = some (.int .i64 pn) := fun V h => (KB.out.stay h).cell 4
  have y5 : ∀ V, Ext w V → V.cell? ⟨x, 5, none⟩ = some (.int .i64 ar) := fun V h => (KB.out.stay h).cell 5
  have y6 : ∀ V, Ext w V → V.cell? ⟨x, 6, none⟩ = some (.int .i64 an) := fun V h => (KB.out.stay h).cell 6
  have y7 : ∀ V, Ext w V → V.cell? ⟨x, 7, none⟩ = some (.bool has) := fun V h => (KB.out.stay h).cell 7
  have y8 : ∀ V, Ext w V → V.cell? ⟨x, 8, none⟩ = some (.int .i64 vep) := fun V h => (KB.out.stay h).cell 8
  have y9 : ∀ V, Ext w V → V.cell? ⟨x, 9, none⟩ = some (.slice vA vn vc) := fun V h => (KB.out.stay h).cell 9
  have E0 : Hid (Ext w w) := Ext.refl _
  clear hX kB hk hv hkl hvl hSB hsb hns hkn hvn H K
  go_enter Try.func43, Try.ntmps43
  go_wp2
  refine ext_begin (by kernel_rfl) ?_
  have E0d := Lib.hid (Ext.drewR E0.out)
  refine ext_take (i := 0) (v := ?_) rfl (by kernel_rfl) (by kernel_rfl) (by kernel_rfl) (fun _ _ _ h => h) (by rfl) ?_ ?_
  rotate_left
  · intro W hW; have hW0 := Ext.trans E0d.out hW; clear hW; go_simp <;> with_reducible rfl
  try simp only [Act.put, List.setIfInBounds_toArray, List.set_cons_zero, List.set_cons_succ]
  refine ext_take (i := 2) (v := ?_) rfl (by kernel_rfl) (by kernel_rfl) (by kernel_rfl) (fun _ _ _ h => h) (by rfl) ?_ ?_
  rotate_left
  · intro W hW; have hW0 := Ext.trans E0d.out hW; clear hW; go_simp <;> with_reducible rfl
  try simp only [Act.put, List.setIfInBounds_toArray, List.set_cons_zero, List.set_cons_succ]
  refine ext_take (i := 3) (v := ?_) rfl (by kernel_rfl) (by kernel_rfl) (by kernel_rfl) (fun _ _ _ h => h) (by rfl) ?_ ?_
  rotate_left
  · intro W hW; have hW0 := Ext.trans E0d.out hW; clear hW; go_simp <;> with_reducible rfl
  try simp only [Act.put, List.setIfInBounds_toArray, List.set_cons_zero, List.set_cons_succ]
  refine ext_take (i := 4) (v := ?_) rfl (by kernel_rfl) (by kernel_rfl) (by kernel_rfl) (fun _ _ _ h => h) (by rfl) ?_ ?_
  rotate_left
  · intro W hW; have hW0 := Ext.trans E0d.out hW; clear hW; go_simp <;> with_reducible rfl
  try simp only [Act.put, List.setIfInBounds_toArray, List.set_cons_zero, List.set_cons_succ]
  refine ext_take (i := 5) (v := ?_) rfl (by kernel_rfl) (by kernel_rfl) (by kernel_rfl) (fun _ _ _ h => h) (by rfl) ?_ ?_
  rotate_left
  · intro W hW; have hW0 := Ext.trans E0d.out hW; clear hW; go_simp <;> with_reducible rfl
  try simp only [Act.put, List.setIfInBounds_toArray, List.set_cons_zero, List.set_cons_succ]
  refine ext_call (i := 1) rfl (by kernel_rfl) (by rfl) (fun K' hK => ?_)
  go_simp
  (go_at_call 30; (with_reducible refine (C1.out _ E0d.out).mono ?_); rintro e w1 ⟨A1, c1, rfl, hin, hx⟩; refine hK _ _ hx ?_; clear hK)
  have Ew1 := Lib.hid (Ext.trans E0d.out hx)
  have I1 := Lib.hid hin; clear hin
  clear hx
  try simp only [Act.put, List.setIfInBounds_toArray, List.set_cons_zero, List.set_cons_succ]
  refine ext_call (i := 6) rfl (by kernel_rfl) (by rfl) (fun K' hK => ?_)
  go_simp
  (go_at_call 23; (with_reducible refine (C2.out _ A1 c1 Ew1.out I1.out).mono ?_); rintro e w2 ⟨rfl, hx⟩; refine hK _ _ hx ?_; clear hK)
  have Ew2 := Lib.hid (Ext.trans Ew1.out hx)
  clear hx
  try simp only [Act.put, List.setIfInBounds_toArray, List.set_cons_zero, List.set_cons_succ]
  refine ext_take (i := 7) (v := ?_) rfl (by kernel_rfl) (by kernel_rfl) (by kernel_rfl) (fun _ _ _ h => h) (by rfl) ?_ ?_
  rotate_left
  · intro W hW; have hW0 := Ext.trans Ew2.out hW; clear hW; go_simp <;> with_reducible rfl
  try simp only [Act.put, List.setIfInBounds_toArray, List.set_cons_zero, List.set_cons_succ]
  refine ext_take (i := 8) (v := ?_) rfl (by kernel_rfl) (by kernel_rfl) (by kernel_rfl) (fun _ _ _ h => h) (by rfl) ?_ ?_
  rotate_left
  · intro W hW; have hW0 := Ext.trans Ew2.out hW; clear hW; go_simp <;> with_reducible rfl
  try simp only [Act.put, List.setIfInBounds_toArray, List.set_cons_zero, List.set_cons_succ]
  refine ext_take (i := 10) (v := ?_) rfl (by kernel_rfl) (by kernel_rfl) (by kernel_rfl) (fun _ _ _ h => h) (by rfl) ?_ ?_
  rotate_left
  · intro W hW; have hW0 := Ext.trans Ew2.out hW; clear hW; go_simp <;> with_reducible rfl
  try simp only [Act.put, List.setIfInBounds_toArray, List.set_cons_zero, List.set_cons_succ]
  refine ext_take (i := 11) (v := ?_) rfl (by kernel_rfl) (by kernel_rfl) (by kernel_rfl) (fun _ _ _ h => h) (by rfl) ?_ ?_
  rotate_left
  · intro W hW; have hW0 := Ext.trans Ew2.out hW; clear hW; go_simp <;> with_reducible rfl
  try simp only [Act.put, List.setIfInBounds_toArray, List.set_cons_zero, List.set_cons_succ]
  refine ext_take (i := 12) (v := ?_) rfl (by kernel_rfl) (by kernel_rfl) (by kernel_rfl) (fun _ _ _ h => h) (by rfl) ?_ ?_
  rotate_left
  · intro W hW; have hW0 := Ext.trans Ew2.out hW; clear hW; go_simp <;> with_reducible rfl
  try simp only [Act.put, List.setIfInBounds_toArray, List.set_cons_zero, List.set_cons_succ]
  refine ext_take (i := 13) (v := ?_) rfl (by kernel_rfl) (by kernel_rfl) (by kernel_rfl) (fun _ _ _ h => h) (by rfl) ?_ ?_
  rotate_left
  · intro W hW; have hW0 := Ext.trans Ew2.out hW; clear hW; go_simp <;> with_reducible rfl
  try simp only [Act.put, List.setIfInBounds_toArray, List.set_cons_zero, List.set_cons_succ]
  refine ext_call (i := 9) rfl (by kernel_rfl) (by rfl) (fun K' hK => ?_)
  go_simp
  (go_at_call 29; (with_reducible refine (C3.out _ Ew2.out).mono ?_); rintro e w3 ⟨A3, c3, rfl, hin, hx⟩; refine hK _ _ hx ?_; clear hK)
  have Ew3 := Lib.hid (Ext.trans Ew2.out hx)
  have I3 := Lib.hid hin; clear hin
  clear hx
  try simp only [Act.put, List.setIfInBounds_toArray, List.set_cons_zero, List.set_cons_succ]
  refine ext_call (i := 14) rfl (by kernel_rfl) (by rfl) (fun K' hK => ?_)
  go_simp
  (go_at_call 33; (with_reducible refine (C4.out _ A3 c3 Ew3.out I3.out).mono ?_); rintro e w4 ⟨rfl, hx⟩; refine hK _ _ hx ?_; clear hK)
  have Ew4 := Lib.hid (Ext.trans Ew3.out hx)
  clear hx
  try simp only [Act.put, List.setIfInBounds_toArray, List.set_cons_zero, List.set_cons_succ]
  refine ext_take (i := 15) (v := ?_) rfl (by kernel_rfl) (by kernel_rfl) (by kernel_rfl) (fun _ _ _ h => h) (by rfl) ?_ ?_
  rotate_left
  · intro W hW; have hW0 := Ext.trans Ew4.out hW; clear hW; go_simp <;> with_reducible rfl
  try simp only [Act.put, List.setIfInBounds_toArray, List.set_cons_zero, List.set_cons_succ]
  refine ext_take (i := 16) (v := ?_) rfl (by kernel_rfl) (by kernel_rfl) (by kernel_rfl) (fun _ _ _ h => h) (by rfl) ?_ ?_
  rotate_left
  · intro W hW; have hW0 := Ext.trans Ew4.out hW; clear hW; go_simp <;> with_reducible rfl
  try simp only [Act.put, List.setIfInBounds_toArray, List.set_cons_zero, List.set_cons_succ]
  refine ext_take (i := 17) (v := ?_) rfl (by kernel_rfl) (by kernel_rfl) (by kernel_rfl) (fun _ _ _ h => h) (by rfl) ?_ ?_
  rotate_left
  · intro W hW; have hW0 := Ext.trans Ew4.out hW; clear hW; go_simp <;> with_reducible rfl
  try simp only [Act.put, List.setIfInBounds_toArray, List.set_cons_zero, List.set_cons_succ]
  refine ext_take (i := 20) (v := ?_) rfl (by kernel_rfl) (by kernel_rfl) (by kernel_rfl) (fun _ _ _ h => h) (by rfl) ?_ ?_
  rotate_left
  · intro W hW; have hW0 := Ext.trans Ew4.out hW; clear hW; go_simp <;> with_reducible rfl
  try simp only [Act.put, List.setIfInBounds_toArray, List.set_cons_zero, List.set_cons_succ]
  refine ext_call (i := 18) rfl (by kernel_rfl) (by rfl) (fun K' hK => ?_)
  go_simp
  (go_at_call 37; (with_reducible refine (C5.out _ Ew4.out).mono ?_); rintro e w5 ⟨A5, c5, rfl, hs, hx⟩; refine hK _ _ hx ?_; clear hK)
  have Ew5 := Lib.hid (Ext.trans Ew4.out hx)
  have HCW := Lib.hid (HCV.out w5 A5 c5 hs); clear hs
  clear hx
  try simp only [Act.put, List.setIfInBounds_toArray, List.set_cons_zero, List.set_cons_succ]
  refine ext_take (i := 19) (v := .string sb) rfl (by kernel_rfl) (by kernel_rfl) (by kernel_rfl) (fun _ _ _ h => h) (by rfl) ?_ ?_
  · intro W hW; have hW0 := Ext.trans Ew5.out hW; have hcw := HCW.out W hW; clear hW; go_simp <;> with_reducible rfl
  try simp only [Act.put, List.setIfInBounds_toArray, List.set_cons_zero, List.set_cons_succ]
  refine ext_call (i := 21) rfl (by kernel_rfl) (by rfl) (fun K' hK => ?_)
  go_simp
  (go_at_call 81; (with_reducible refine (C6.out _ Ew5.out).mono ?_); rintro e w6 ⟨rfl, hx⟩; refine hK _ _ hx ?_; clear hK)
  have Ew6 := Lib.hid (Ext.trans Ew5.out hx)
  clear hx
  try simp only [Act.put, List.setIfInBounds_toArray, List.set_cons_zero, List.set_cons_succ]
  refine ext_take (i := 22) (v := ?_) rfl (by kernel_rfl) (by kernel_rfl) (by kernel_rfl) (fun _ _ _ h => h) (by rfl) ?_ ?_
  rotate_left
  · intro W hW; have hW0 := Ext.trans Ew6.out hW; clear hW; go_simp <;> with_reducible rfl
  try simp only [Act.put, List.setIfInBounds_toArray, List.set_cons_zero, List.set_cons_succ]
  refine ext_take (i := 23) (v := ?_) rfl (by kernel_rfl) (by kernel_rfl) (by kernel_rfl) (fun _ _ _ h => h) (by rfl) ?_ ?_
  rotate_left
  · intro W hW; have hW0 := Ext.trans Ew6.out hW; clear hW; go_simp <;> with_reducible rfl
  try simp only [Act.put, List.setIfInBounds_toArray, List.set_cons_zero, List.set_cons_succ]
  refine ext_take (i := 24) (v := ?_) rfl (by kernel_rfl) (by kernel_rfl) (by kernel_rfl) (fun _ _ _ h => h) (by rfl) ?_ ?_
  rotate_left
  · intro W hW; have hW0 := Ext.trans Ew6.out hW; clear hW; go_simp <;> with_reducible rfl
  try simp only [Act.put, List.setIfInBounds_toArray, List.set_cons_zero, List.set_cons_succ]
  refine wpAnyH_done (by kernel_rfl) ?_ _
  have EX := Lib.hid Ew6.out
  clear y1 y2 y3 y4 y5 y6 y7 y8 y9
  go_wp2_with fail
  try go_ret
  exact hD.out _ _ ⟨rfl, EX.out⟩

end Go.Proofs.Ytkdcbidbciognaa
