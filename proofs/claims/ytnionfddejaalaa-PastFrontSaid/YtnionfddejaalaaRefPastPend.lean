/-
  The requests that wait (law 22): the document's Pending.
-/
import Derived.Test.YtnionfddejaalaaRefPast
import Derived.Test.YtnionfddejaalaaPastPend
namespace Go.Proofs.Ytnionfddejaalaa
set_option linter.unusedVariables false
set_option linter.unusedSimpArgs false
open Go.RowKit

set_option maxRecDepth 8000 in
set_option maxHeartbeats 16000000 in
theorem rpend_any (base P : Nat) (G : Option Nat) (st : Ps) (w : World) (H : RAt w base P G st) (K : PsOk st) :
    Calls Try.prog 17 #[.pointer (some ⟨P, 0, none⟩)] w fun e w' => ∃ A c, e = .returned (.slice A (pendL st.wait 4).length c) ∧ w'.ownsRow w.heap.size 29 6 (.slice A (pendL st.wait 4).length c) (pendL st.wait 4).length (flatQ (pendL st.wait 4)) ∧ Ext w w' := by
  refine hide_post fun D hD => ?_
  obtain ⟨hbP, v, l0, l1, l2, l3, o0, o1, o2, o3, L, kP, hl, hw, hown, hG, hL, hin⟩ := H
  rw [hw] at hD
  have KP := Lib.hid kP
  have S0 : Hid (∀ q, o0 = some q → 0 < q.s) := fun q hq => by have := (mayQ_bd (K.may 0 q (by decide) (by decide) (by unfold Ps.w; rw [hw]; exact hq)).1).2.2.1; omega
  have S1 : Hid (∀ q, o1 = some q → 0 < q.s) := fun q hq => by have := (mayQ_bd (K.may 1 q (by decide) (by decide) (by unfold Ps.w; rw [hw]; exact hq)).1).2.2.1; omega
  have S2 : Hid (∀ q, o2 = some q → 0 < q.s) := fun q hq => by have := (mayQ_bd (K.may 2 q (by decide) (by decide) (by unfold Ps.w; rw [hw]; exact hq)).1).2.2.1; omega
  have S3 : Hid (∀ q, o3 = some q → 0 < q.s) := fun q hq => by have := (mayQ_bd (K.may 3 q (by decide) (by decide) (by unfold Ps.w; rw [hw]; exact hq)).1).2.2.1; omega
  clear hbP hl hw hown hG hL hin kP K
  go_enter Try.func17, Try.ntmps17
  go_wp2
  go_loopw [3, 4] (fun s i wr => ∃ (j : Nat), j ≤ 4 ∧ i = .int .i64 j ∧ Hid (wr.ownsRow w.heap.size 29 6 s (pendL [o0, o1, o2, o3] j).length (flatQ (pendL [o0, o1, o2, o3] j))) ∧ Hid (Ext w wr)) (fun _ i _ => 4 - (intOf i).toNat)
  case atStart => exact ⟨0, by omega, rfl, World.ownsRow_nil _ _ _ _, Ext.refl _⟩
  case round =>
    obtain ⟨j, hj, rfl, HO, HX⟩ := hrel
    obtain ⟨A1, n1, hs1⟩ := own_shape HO.out
    subst hs1
    by_cases hlt : j < 4
    · have hjc : j = 0 ∨ j = 1 ∨ j = 2 ∨ j = 3 := by omega
      have KW := Lib.hid (KP.out.stay HX.out)
      rcases hjc with rfl | rfl | rfl | rfl
      · cases o0 with
        | none =>
          have HN : Hid (pendL [none, o1, o2, o3] 1 = pendL [none, o1, o2, o3] 0) := pendL_none rfl
          have d1 : wr.cell? ⟨P, 6, none⟩ = some (.int .i64 0) := KW.out.cell 6
          go_wp2
          go_roundw
          case rel => exact ⟨1, by omega, rfl, by (show World.ownsRow _ _ _ _ _ _ _); rw [HN.out]; exact HO.out, HX.out⟩
          case measure => simp [intOf]
        | some q =>
          obtain ⟨qc, qs, qk, qi, qm, qd⟩ := q
          have HN : Hid (pendL [some ⟨qc, qs, qk, qi, qm, qd⟩, o1, o2, o3] 1 = pendL [some ⟨qc, qs, qk, qi, qm, qd⟩, o1, o2, o3] 0 ++ [⟨qc, qs, qk, qi, qm, qd⟩]) := pendL_some rfl
          have hq0 : 0 < qs := S0.out _ rfl
          have d0 : wr.cell? ⟨P, 5, none⟩ = some (.int .i64 qc) := KW.out.cell 5
          have d1 : wr.cell? ⟨P, 6, none⟩ = some (.int .i64 qs) := KW.out.cell 6
          have d2 : wr.cell? ⟨P, 7, none⟩ = some (.int .i64 qk) := KW.out.cell 7
          have d3 : wr.cell? ⟨P, 8, none⟩ = some (.int .i64 qi) := KW.out.cell 8
          have d4 : wr.cell? ⟨P, 9, none⟩ = some (.int .i64 qm) := KW.out.cell 9
          have d5 : wr.cell? ⟨P, 10, none⟩ = some (.string qd) := KW.out.cell 10
          go_wp2_with (at_builtin; refine wpList_append_wide rfl (.tmp 17) (.tmp 24) 43 rfl w.heap.size 29 _ 6 56 Try.underlying43 info_req22 rfl (by decide) (by decide) _ _ _ rfl (HO.out.alloc _) wr.heap.size (qcells ⟨qc, qs, qk, qi, qm, qd⟩).toList rfl rfl (Blk.new wr _ _) (by simp [qcells, Value.oneCell']) (by have := pendL_len [some ⟨qc, qs, qk, qi, qm, qd⟩, o1, o2, o3] 0; omega) (by have := HX.out.size; simp; omega) ?_; intro v' w3 h1 h2 h3; obtain ⟨A3, c3, hv3⟩ := own_shape h1; subst hv3; have HO3 := Lib.hid h1; have X3 : Hid (Ext w w3) := (Ext.trans HX.out (Ext.alloc _ _)).grown h2 (by have := HX.out.size; simp; omega) (fun k hk => (HO.out.lt k hk).1); clear h1 h2 h3)
          go_roundw
          case rel => exact ⟨1, by omega, rfl, by (show World.ownsRow _ _ _ _ _ _ _); rw [HN.out, flatQ_app, List.length_append]; simpa [flatQ] using HO3.out, X3.out⟩
          case measure => simp [intOf]
      · cases o1 with
        | none =>
          have HN : Hid (pendL [o0, none, o2, o3] 2 = pendL [o0, none, o2, o3] 1) := pendL_none rfl
          have d1 : wr.cell? ⟨P, 12, none⟩ = some (.int .i64 0) := KW.out.cell 12
          go_wp2
          go_roundw
          case rel => exact ⟨2, by omega, rfl, by (show World.ownsRow _ _ _ _ _ _ _); rw [HN.out]; exact HO.out, HX.out⟩
          case measure => simp [intOf]
        | some q =>
          obtain ⟨qc, qs, qk, qi, qm, qd⟩ := q
          have HN : Hid (pendL [o0, some ⟨qc, qs, qk, qi, qm, qd⟩, o2, o3] 2 = pendL [o0, some ⟨qc, qs, qk, qi, qm, qd⟩, o2, o3] 1 ++ [⟨qc, qs, qk, qi, qm, qd⟩]) := pendL_some rfl
          have hq0 : 0 < qs := S1.out _ rfl
          have d0 : wr.cell? ⟨P, 11, none⟩ = some (.int .i64 qc) := KW.out.cell 11
          have d1 : wr.cell? ⟨P, 12, none⟩ = some (.int .i64 qs) := KW.out.cell 12
          have d2 : wr.cell? ⟨P, 13, none⟩ = some (.int .i64 qk) := KW.out.cell 13
          have d3 : wr.cell? ⟨P, 14, none⟩ = some (.int .i64 qi) := KW.out.cell 14
          have d4 : wr.cell? ⟨P, 15, none⟩ = some (.int .i64 qm) := KW.out.cell 15
          have d5 : wr.cell? ⟨P, 16, none⟩ = some (.string qd) := KW.out.cell 16
          go_wp2_with (at_builtin; refine wpList_append_wide rfl (.tmp 17) (.tmp 24) 43 rfl w.heap.size 29 _ 6 56 Try.underlying43 info_req22 rfl (by decide) (by decide) _ _ _ rfl (HO.out.alloc _) wr.heap.size (qcells ⟨qc, qs, qk, qi, qm, qd⟩).toList rfl rfl (Blk.new wr _ _) (by simp [qcells, Value.oneCell']) (by have := pendL_len [o0, some ⟨qc, qs, qk, qi, qm, qd⟩, o2, o3] 1; omega) (by have := HX.out.size; simp; omega) ?_; intro v' w3 h1 h2 h3; obtain ⟨A3, c3, hv3⟩ := own_shape h1; subst hv3; have HO3 := Lib.hid h1; have X3 : Hid (Ext w w3) := (Ext.trans HX.out (Ext.alloc _ _)).grown h2 (by have := HX.out.size; simp; omega) (fun k hk => (HO.out.lt k hk).1); clear h1 h2 h3)
          go_roundw
          case rel => exact ⟨2, by omega, rfl, by (show World.ownsRow _ _ _ _ _ _ _); rw [HN.out, flatQ_app, List.length_append]; simpa [flatQ] using HO3.out, X3.out⟩
          case measure => simp [intOf]
      · cases o2 with
        | none =>
          have HN : Hid (pendL [o0, o1, none, o3] 3 = pendL [o0, o1, none, o3] 2) := pendL_none rfl
          have d1 : wr.cell? ⟨P, 18, none⟩ = some (.int .i64 0) := KW.out.cell 18
          go_wp2
          go_roundw
          case rel => exact ⟨3, by omega, rfl, by (show World.ownsRow _ _ _ _ _ _ _); rw [HN.out]; exact HO.out, HX.out⟩
          case measure => simp [intOf]
        | some q =>
          obtain ⟨qc, qs, qk, qi, qm, qd⟩ := q
          have HN : Hid (pendL [o0, o1, some ⟨qc, qs, qk, qi, qm, qd⟩, o3] 3 = pendL [o0, o1, some ⟨qc, qs, qk, qi, qm, qd⟩, o3] 2 ++ [⟨qc, qs, qk, qi, qm, qd⟩]) := pendL_some rfl
          have hq0 : 0 < qs := S2.out _ rfl
          have d0 : wr.cell? ⟨P, 17, none⟩ = some (.int .i64 qc) := KW.out.cell 17
          have d1 : wr.cell? ⟨P, 18, none⟩ = some (.int .i64 qs) := KW.out.cell 18
          have d2 : wr.cell? ⟨P, 19, none⟩ = some (.int .i64 qk) := KW.out.cell 19
          have d3 : wr.cell? ⟨P, 20, none⟩ = some (.int .i64 qi) := KW.out.cell 20
          have d4 : wr.cell? ⟨P, 21, none⟩ = some (.int .i64 qm) := KW.out.cell 21
          have d5 : wr.cell? ⟨P, 22, none⟩ = some (.string qd) := KW.out.cell 22
          go_wp2_with (at_builtin; refine wpList_append_wide rfl (.tmp 17) (.tmp 24) 43 rfl w.heap.size 29 _ 6 56 Try.underlying43 info_req22 rfl (by decide) (by decide) _ _ _ rfl (HO.out.alloc _) wr.heap.size (qcells ⟨qc, qs, qk, qi, qm, qd⟩).toList rfl rfl (Blk.new wr _ _) (by simp [qcells, Value.oneCell']) (by have := pendL_len [o0, o1, some ⟨qc, qs, qk, qi, qm, qd⟩, o3] 2; omega) (by have := HX.out.size; simp; omega) ?_; intro v' w3 h1 h2 h3; obtain ⟨A3, c3, hv3⟩ := own_shape h1; subst hv3; have HO3 := Lib.hid h1; have X3 : Hid (Ext w w3) := (Ext.trans HX.out (Ext.alloc _ _)).grown h2 (by have := HX.out.size; simp; omega) (fun k hk => (HO.out.lt k hk).1); clear h1 h2 h3)
          go_roundw
          case rel => exact ⟨3, by omega, rfl, by (show World.ownsRow _ _ _ _ _ _ _); rw [HN.out, flatQ_app, List.length_append]; simpa [flatQ] using HO3.out, X3.out⟩
          case measure => simp [intOf]
      · cases o3 with
        | none =>
          have HN : Hid (pendL [o0, o1, o2, none] 4 = pendL [o0, o1, o2, none] 3) := pendL_none rfl
          have d1 : wr.cell? ⟨P, 24, none⟩ = some (.int .i64 0) := KW.out.cell 24
          go_wp2
          go_roundw
          case rel => exact ⟨4, by omega, rfl, by (show World.ownsRow _ _ _ _ _ _ _); rw [HN.out]; exact HO.out, HX.out⟩
          case measure => simp [intOf]
        | some q =>
          obtain ⟨qc, qs, qk, qi, qm, qd⟩ := q
          have HN : Hid (pendL [o0, o1, o2, some ⟨qc, qs, qk, qi, qm, qd⟩] 4 = pendL [o0, o1, o2, some ⟨qc, qs, qk, qi, qm, qd⟩] 3 ++ [⟨qc, qs, qk, qi, qm, qd⟩]) := pendL_some rfl
          have hq0 : 0 < qs := S3.out _ rfl
          have d0 : wr.cell? ⟨P, 23, none⟩ = some (.int .i64 qc) := KW.out.cell 23
          have d1 : wr.cell? ⟨P, 24, none⟩ = some (.int .i64 qs) := KW.out.cell 24
          have d2 : wr.cell? ⟨P, 25, none⟩ = some (.int .i64 qk) := KW.out.cell 25
          have d3 : wr.cell? ⟨P, 26, none⟩ = some (.int .i64 qi) := KW.out.cell 26
          have d4 : wr.cell? ⟨P, 27, none⟩ = some (.int .i64 qm) := KW.out.cell 27
          have d5 : wr.cell? ⟨P, 28, none⟩ = some (.string qd) := KW.out.cell 28
          go_wp2_with (at_builtin; refine wpList_append_wide rfl (.tmp 17) (.tmp 24) 43 rfl w.heap.size 29 _ 6 56 Try.underlying43 info_req22 rfl (by decide) (by decide) _ _ _ rfl (HO.out.alloc _) wr.heap.size (qcells ⟨qc, qs, qk, qi, qm, qd⟩).toList rfl rfl (Blk.new wr _ _) (by simp [qcells, Value.oneCell']) (by have := pendL_len [o0, o1, o2, some ⟨qc, qs, qk, qi, qm, qd⟩] 3; omega) (by have := HX.out.size; simp; omega) ?_; intro v' w3 h1 h2 h3; obtain ⟨A3, c3, hv3⟩ := own_shape h1; subst hv3; have HO3 := Lib.hid h1; have X3 : Hid (Ext w w3) := (Ext.trans HX.out (Ext.alloc _ _)).grown h2 (by have := HX.out.size; simp; omega) (fun k hk => (HO.out.lt k hk).1); clear h1 h2 h3)
          go_roundw
          case rel => exact ⟨4, by omega, rfl, by (show World.ownsRow _ _ _ _ _ _ _); rw [HN.out, flatQ_app, List.length_append]; simpa [flatQ] using HO3.out, X3.out⟩
          case measure => simp [intOf]
    · obtain rfl : j = 4 := by omega
      go_wp2
      try go_ret
      exact hD.out _ _ ⟨_, _, rfl, HO.out, HX.out⟩

end Go.Proofs.Ytnionfddejaalaa
