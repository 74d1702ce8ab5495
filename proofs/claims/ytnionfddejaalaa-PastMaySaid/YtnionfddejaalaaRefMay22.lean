/-
  The document's May (law 22).
-/
import Derived.Test.YtnionfddejaalaaRefPastStep
import Derived.Test.YtnionfddejaalaaPastSame
import Derived.Test.YtnionfddejaalaaMayLaw
import Derived.Test.YtnionfddejaalaaHeldZ
namespace Go.Proofs.Ytnionfddejaalaa
set_option linter.unusedVariables false
set_option linter.unusedSimpArgs false
open Go.RowKit

open Classical in
set_option maxRecDepth 8000 in
set_option maxHeartbeats 16000000 in
theorem rmay_any (A : Option Addr) (cap : Nat) (L : List At) (w : World) (hl : L.length ≤ 1000000) (hr : ∀ t ∈ L, t.x.r.l.length ≤ 1000000) (hd : ∀ t ∈ L, t.x.q.d.size ≤ maxLen) (hA : Acs w A L) :
    Calls Try.prog 21 #[.slice A L.length cap] w fun e w' => e = .returned (.bool (decide (mayF (L.map At.x)))) ∧ Ext w w' := by
  refine hide_post fun D hD => ?_
  obtain ⟨n, hn⟩ : ∃ n, n = L.length := ⟨_, rfl⟩
  rw [← hn] at hl ⊢
  have HN := Lib.hid hn
  have HA := Lib.hid hA
  have HR := Lib.hid hr
  have HQD := Lib.hid hd
  obtain ⟨P, hP⟩ : ∃ P, P = w.heap.size := ⟨_, rfl⟩
  obtain ⟨w1, hw1⟩ : ∃ w1, w1 = w.alloc (.cells #[.slice none 0 0, .int .i64 0, .int .i64 0, .int .i64 0, .int .i64 0, .int .i64 0, .int .i64 0, .int .i64 0, .int .i64 0, .int .i64 0, .string ⟨#[]⟩, .int .i64 0, .int .i64 0, .int .i64 0, .int .i64 0, .int .i64 0, .string ⟨#[]⟩, .int .i64 0, .int .i64 0, .int .i64 0, .int .i64 0, .int .i64 0, .string ⟨#[]⟩, .int .i64 0, .int .i64 0, .int .i64 0, .int .i64 0, .int .i64 0, .string ⟨#[]⟩] 32) := ⟨_, rfl⟩
  have HP1 : Hid (RAt w1 P P none .init) := by show RAt _ _ _ _ _; rw [hw1, hP]; exact RAt.new w _ (Nat.le_refl _)
  have HX1 : Hid (Ext w w1) := by show Ext _ _; rw [hw1]; exact Ext.alloc _ _
  have HPW := Lib.hid hP
  have HW1 := Lib.hid hw1
  clear hA hn hr hd hP hw1
  go_enter Try.func21, Try.ntmps21
  go_wp2
  rw [← HW1.out, ← HPW.out]
  go_loopw [4] (fun i wr => ∃ (j : Nat) (st : Ps) (G : Option Nat), j ≤ n ∧ i = .int .i64 j ∧ Hid (runF .init ((L.map At.x).take j) = some st) ∧ Hid (RAt wr P P G st) ∧ Hid (Ext w wr)) (fun i _ => n - (intOf i).toNat)
  case atStart => exact ⟨0, .init, none, by omega, rfl, rfl, HP1.out, HX1.out⟩
  case round =>
    obtain ⟨j, st, G, hj, rfl, HRUN, HPA, HX⟩ := hrel
    have HK : Hid (PsOk st) := runF_ok _ _ _ PsOk.init HRUN.out
    by_cases hlt : j < n
    · obtain ⟨t, ht⟩ : ∃ t, L[j]? = some t := ⟨_, List.getElem?_eq_getElem (by rw [← HN.out]; exact hlt)⟩
      have hst := run_take HRUN.out (show (L.map At.x)[j]? = some t.x by rw [List.getElem?_map, ht]; rfl)
      have hacts := take_acts HRUN.out
      have HJL : Hid (st.acts.length = j) := by (show _ = _); rw [hacts, List.length_take, List.length_map]; have := HN.out; omega
      have HSL : Hid (st.acts.length ≤ 1000000) := by (show _ ≤ _); rw [HJL.out]; omega
      have hrl := HR.out t (List.mem_of_getElem? ht)
      have hqd := HQD.out t (List.mem_of_getElem? ht)
      obtain ⟨b, o, rfl, hc, hsa0⟩ := HA.out j t ht
      have hsa := hsa0.stay HX.out
      obtain ⟨tx, tA, tc⟩ := t
      obtain ⟨cl, sq, ans, ⟨qc, qs, qk, qi, qm, qd⟩, ⟨rc, rv, rd, rl⟩, at9⟩ := tx
      simp only at hc hsa hrl hst hqd
      obtain ⟨rn, hrn⟩ : ∃ r, r = rl.length := ⟨_, rfl⟩
      have c0 : w.cell? _ = some (.int .i64 cl) := hc 0 (by decide)
      have c1 : w.cell? _ = some (.int .i64 sq) := hc 1 (by decide)
      have c2 : w.cell? _ = some (.bool ans) := hc 2 (by decide)
      have c3 : w.cell? _ = some (.int .i64 qc) := hc 3 (by decide)
      have c4 : w.cell? _ = some (.int .i64 qs) := hc 4 (by decide)
      have c5 : w.cell? _ = some (.int .i64 qk) := hc 5 (by decide)
      have c6 : w.cell? _ = some (.int .i64 qi) := hc 6 (by decide)
      have c7 : w.cell? _ = some (.int .i64 qm) := hc 7 (by decide)
      have c8 : w.cell? _ = some (.string qd) := hc 8 (by decide)
      have c9 : w.cell? _ = some (.int .i64 rc) := hc 9 (by decide)
      have c10 : w.cell? _ = some (.int .i64 rv) := hc 10 (by decide)
      have c11 : w.cell? _ = some (.string rd) := hc 11 (by decide)
      have c12 : w.cell? _ = some (.slice tA rl.length tc) := hc 12 (by decide)
      have c13 : w.cell? _ = some (.int .i64 at9) := hc 13 (by decide)
      rw [← hrn] at c12
      simp only [Nat.add_zero] at c0
      have HXV : Hid (∀ V, Frm (Psel P G) wr V → Ext w V) := fun V h => Frm.step HX.out h HX.out.size (fun k hk => by rw [← HPW.out]; exact (HPA.out.sel k hk).1)
      have HQ0 := Lib.hid c0
      have HQ1 := Lib.hid c1
      have HQ2 := Lib.hid c2
      have HQ3 := Lib.hid c3
      have HQ4 := Lib.hid c4
      have HQ5 := Lib.hid c5
      have HQ6 := Lib.hid c6
      have HQ7 := Lib.hid c7
      have HQ8 := Lib.hid c8
      have HQ9 := Lib.hid c9
      have HQ10 := Lib.hid c10
      have HQ11 := Lib.hid c11
      have HQ12 := Lib.hid c12
      have HQ13 := Lib.hid c13
      have z0 : ∀ V, Frm (Psel P G) wr V → V.cell? _ = _ := fun V h => cell_stay (HXV.out V h) c0
      have z1 : ∀ V, Frm (Psel P G) wr V → V.cell? _ = _ := fun V h => cell_stay (HXV.out V h) c1
      have z9 : ∀ V, Frm (Psel P G) wr V → V.cell? _ = _ := fun V h => cell_stay (HXV.out V h) c9
      have z10 : ∀ V, Frm (Psel P G) wr V → V.cell? _ = _ := fun V h => cell_stay (HXV.out V h) c10
      have z11 : ∀ V, Frm (Psel P G) wr V → V.cell? _ = _ := fun V h => cell_stay (HXV.out V h) c11
      have z12 : ∀ V, Frm (Psel P G) wr V → V.cell? _ = _ := fun V h => cell_stay (HXV.out V h) c12
      have z13 : ∀ V, Frm (Psel P G) wr V → V.cell? _ = _ := fun V h => cell_stay (HXV.out V h) c13
      have z2 := cell_stay HX.out c2
      replace c3 := cell_stay HX.out c3
      replace c4 := cell_stay HX.out c4
      replace c5 := cell_stay HX.out c5
      replace c6 := cell_stay HX.out c6
      replace c7 := cell_stay HX.out c7
      replace c8 := cell_stay HX.out c8
      have HSTEP := Lib.hid hst
      have hj1 : (j : Int) < (n : Int) := by omega
      have hj0 : (0 : Int) ≤ (j : Int) := by omega
      have HRN := Lib.hid hrn
      have HSA0 := Lib.hid hsa0
      clear hc ht hsa0 hrn c0 c1 c2 c9 c10 c11 c12 c13 hacts
      cases ans with
      | true =>
        have heq : stE st ⟨cl, sq, true, ⟨qc, qs, qk, qi, qm, qd⟩, ⟨rc, rv, rd, rl⟩, at9⟩ = ansE st cl sq at9 := by unfold stE; simp
        have heqn : (if stE st ⟨cl, sq, true, ⟨qc, qs, qk, qi, qm, qd⟩, ⟨rc, rv, rd, rl⟩, at9⟩ = 0 then stS st ⟨cl, sq, true, ⟨qc, qs, qk, qi, qm, qd⟩, ⟨rc, rv, rd, rl⟩, at9⟩ else st) = ansN st cl sq ⟨rc, rv, rd, rl⟩ at9 := by unfold ansN; rw [heq]; unfold stS; simp
        have CA : Hid (∀ V, Ext wr V → Calls Try.prog 14 #[.pointer (some ⟨P, 0, none⟩), .int .i64 cl, .int .i64 sq, .agg #[.int .i64 rc, .int .i64 rv, .string rd, .slice tA rn tc], .int .i64 at9] V fun e w' => e = .returned (.int .i64 (stE st ⟨cl, sq, true, ⟨qc, qs, qk, qi, qm, qd⟩, ⟨rc, rv, rd, rl⟩, at9⟩)) ∧ ROut V w' P P G (if stE st ⟨cl, sq, true, ⟨qc, qs, qk, qi, qm, qd⟩, ⟨rc, rv, rd, rl⟩, at9⟩ = 0 then stS st ⟨cl, sq, true, ⟨qc, qs, qk, qi, qm, qd⟩, ⟨rc, rv, rd, rl⟩, at9⟩ else st)) := fun V hV => by
          have hsl : st.acts.length ≤ 1000000 := HSL.out
          have h7 := rans_any P P G st sq rc rv rd tA tc rl at9 cl V (HPA.out.stay hV) HK.out hsl (by omega) (hsa.stay hV)
          rw [← HRN.out] at h7
          rw [heqn, heq]
          exact h7
        have HS : Hid ((stE st ⟨cl, sq, true, ⟨qc, qs, qk, qi, qm, qd⟩, ⟨rc, rv, rd, rl⟩, at9⟩ = 0 ∧ sameAc (stA st ⟨cl, sq, true, ⟨qc, qs, qk, qi, qm, qd⟩, ⟨rc, rv, rd, rl⟩, at9⟩) ⟨cl, sq, true, ⟨qc, qs, qk, qi, qm, qd⟩, ⟨rc, rv, rd, rl⟩, at9⟩ = true → False) → decide (mayF (L.map At.x)) = false) := fun h => by
          rw [decide_eq_false_iff_not]
          refine may_not (j := j + 1) ?_
          rw [HSTEP.out, if_neg h]
        have HGO : Hid (stE st ⟨cl, sq, true, ⟨qc, qs, qk, qi, qm, qd⟩, ⟨rc, rv, rd, rl⟩, at9⟩ = 0 → sameAc (stA st ⟨cl, sq, true, ⟨qc, qs, qk, qi, qm, qd⟩, ⟨rc, rv, rd, rl⟩, at9⟩) ⟨cl, sq, true, ⟨qc, qs, qk, qi, qm, qd⟩, ⟨rc, rv, rd, rl⟩, at9⟩ = true → runF .init ((L.map At.x).take (j + 1)) = some (stS st ⟨cl, sq, true, ⟨qc, qs, qk, qi, qm, qd⟩, ⟨rc, rv, rd, rl⟩, at9⟩)) := fun h1 h2 => by
          rw [HSTEP.out, if_pos ⟨h1, h2⟩]
        have HAS : Hid ((stS st ⟨cl, sq, true, ⟨qc, qs, qk, qi, qm, qd⟩, ⟨rc, rv, rd, rl⟩, at9⟩).acts = st.acts ++ [stA st ⟨cl, sq, true, ⟨qc, qs, qk, qi, qm, qd⟩, ⟨rc, rv, rd, rl⟩, at9⟩]) := stS_acts _ _
        have HST := Lib.hid hst
        clear heq heqn hst
        generalize hEE : stE st ⟨cl, sq, true, ⟨qc, qs, qk, qi, qm, qd⟩, ⟨rc, rv, rd, rl⟩, at9⟩ = E at *
        clear hEE
        go_wp2
        have E7 : Hid (Frm (Psel P G) wr wr.drew) := Frm.drew (Frm.refl _ _)
        refine rz_begin (Psel P G) [] (by kernel_rfl) ?_
        refine rz_take [21, 22] (i := 0) (v := ?_) rfl (by kernel_rfl) (by kernel_rfl) (by kernel_rfl) (by kernel_rfl) (by kernel_rfl) (by kernel_rfl) (fun _ _ _ h => h) (by rfl) ?_ ?_
        rotate_left
        · intro W hW; have hW0 := Frm.tr E7.out hW; clear hW; go_simp <;> with_reducible rfl
        try simp only [Act.put, List.setIfInBounds_toArray, List.set_cons_zero, List.set_cons_succ]
        refine rz_take [3, 4, 5, 21, 22] (i := 1) (v := ?_) rfl (by kernel_rfl) (by kernel_rfl) (by kernel_rfl) (by kernel_rfl) (by kernel_rfl) (by kernel_rfl) (fun _ _ _ h => h) (by rfl) ?_ ?_
        rotate_left
        · intro W hW; have hW0 := Frm.tr E7.out hW; clear hW; go_simp <;> with_reducible rfl
        try simp only [Act.put, List.setIfInBounds_toArray, List.set_cons_zero, List.set_cons_succ]
        refine rz_take [3, 4, 5, 21, 22] (i := 2) (v := ?_) rfl (by kernel_rfl) (by kernel_rfl) (by kernel_rfl) (by kernel_rfl) (by kernel_rfl) (by kernel_rfl) (fun _ _ _ h => h) (by rfl) ?_ ?_
        rotate_left
        · intro W hW; have hW0 := Frm.tr E7.out hW; clear hW; go_simp <;> with_reducible rfl
        try simp only [Act.put, List.setIfInBounds_toArray, List.set_cons_zero, List.set_cons_succ]
        refine rz_take [4, 5, 21, 22] (i := 3) (v := ?_) rfl (by kernel_rfl) (by kernel_rfl) (by kernel_rfl) (by kernel_rfl) (by kernel_rfl) (by kernel_rfl) (fun _ _ _ h => h) (by rfl) ?_ ?_
        rotate_left
        · intro W hW; have hW0 := Frm.tr E7.out hW; clear hW; go_simp <;> with_reducible rfl
        try simp only [Act.put, List.setIfInBounds_toArray, List.set_cons_zero, List.set_cons_succ]
        refine rz_take [5, 21, 22] (i := 4) (v := ?_) rfl (by kernel_rfl) (by kernel_rfl) (by kernel_rfl) (by kernel_rfl) (by kernel_rfl) (by kernel_rfl) (fun _ _ _ h => h) (by rfl) ?_ ?_
        rotate_left
        · intro W hW; have hW0 := Frm.tr E7.out hW; clear hW; go_simp <;> with_reducible rfl
        try simp only [Act.put, List.setIfInBounds_toArray, List.set_cons_zero, List.set_cons_succ]
        refine rz_take [21, 22] (i := 5) (v := ?_) rfl (by kernel_rfl) (by kernel_rfl) (by kernel_rfl) (by kernel_rfl) (by kernel_rfl) (by kernel_rfl) (fun _ _ _ h => h) (by rfl) ?_ ?_
        rotate_left
        · intro W hW; have hW0 := Frm.tr E7.out hW; clear hW; go_simp <;> with_reducible rfl
        try simp only [Act.put, List.setIfInBounds_toArray, List.set_cons_zero, List.set_cons_succ]
        refine rz_take [8, 9, 10, 21, 22] (i := 6) (v := ?_) rfl (by kernel_rfl) (by kernel_rfl) (by kernel_rfl) (by kernel_rfl) (by kernel_rfl) (by kernel_rfl) (fun _ _ _ h => h) (by rfl) ?_ ?_
        rotate_left
        · intro W hW; have hW0 := Frm.tr E7.out hW; clear hW; go_simp <;> with_reducible rfl
        try simp only [Act.put, List.setIfInBounds_toArray, List.set_cons_zero, List.set_cons_succ]
        refine rz_take [8, 9, 10, 21, 22] (i := 7) (v := ?_) rfl (by kernel_rfl) (by kernel_rfl) (by kernel_rfl) (by kernel_rfl) (by kernel_rfl) (by kernel_rfl) (fun _ _ _ h => h) (by rfl) ?_ ?_
        rotate_left
        · intro W hW; have hW0 := Frm.tr E7.out hW; clear hW; go_simp <;> with_reducible rfl
        try simp only [Act.put, List.setIfInBounds_toArray, List.set_cons_zero, List.set_cons_succ]
        refine rz_take [9, 10, 21, 22] (i := 8) (v := ?_) rfl (by kernel_rfl) (by kernel_rfl) (by kernel_rfl) (by kernel_rfl) (by kernel_rfl) (by kernel_rfl) (fun _ _ _ h => h) (by rfl) ?_ ?_
        rotate_left
        · intro W hW; have hW0 := Frm.tr E7.out hW; clear hW; go_simp <;> with_reducible rfl
        try simp only [Act.put, List.setIfInBounds_toArray, List.set_cons_zero, List.set_cons_succ]
        refine rz_take [10, 21, 22] (i := 9) (v := ?_) rfl (by kernel_rfl) (by kernel_rfl) (by kernel_rfl) (by kernel_rfl) (by kernel_rfl) (by kernel_rfl) (fun _ _ _ h => h) (by rfl) ?_ ?_
        rotate_left
        · intro W hW; have hW0 := Frm.tr E7.out hW; clear hW; go_simp <;> with_reducible rfl
        try simp only [Act.put, List.setIfInBounds_toArray, List.set_cons_zero, List.set_cons_succ]
        refine rz_take [21, 22] (i := 10) (v := ?_) rfl (by kernel_rfl) (by kernel_rfl) (by kernel_rfl) (by kernel_rfl) (by kernel_rfl) (by kernel_rfl) (fun _ _ _ h => h) (by rfl) ?_ ?_
        rotate_left
        · intro W hW; have hW0 := Frm.tr E7.out hW; clear hW; go_simp <;> with_reducible rfl
        try simp only [Act.put, List.setIfInBounds_toArray, List.set_cons_zero, List.set_cons_succ]
        refine rz_take [13, 14, 15, 21, 22] (i := 11) (v := ?_) rfl (by kernel_rfl) (by kernel_rfl) (by kernel_rfl) (by kernel_rfl) (by kernel_rfl) (by kernel_rfl) (fun _ _ _ h => h) (by rfl) ?_ ?_
        rotate_left
        · intro W hW; have hW0 := Frm.tr E7.out hW; clear hW; go_simp <;> with_reducible rfl
        try simp only [Act.put, List.setIfInBounds_toArray, List.set_cons_zero, List.set_cons_succ]
        refine rz_take [13, 14, 15, 21, 22] (i := 12) (v := ?_) rfl (by kernel_rfl) (by kernel_rfl) (by kernel_rfl) (by kernel_rfl) (by kernel_rfl) (by kernel_rfl) (fun _ _ _ h => h) (by rfl) ?_ ?_
        rotate_left
        · intro W hW; have hW0 := Frm.tr E7.out hW; clear hW; go_simp <;> with_reducible rfl
        try simp only [Act.put, List.setIfInBounds_toArray, List.set_cons_zero, List.set_cons_succ]
        refine rz_take [14, 15, 21, 22] (i := 13) (v := ?_) rfl (by kernel_rfl) (by kernel_rfl) (by kernel_rfl) (by kernel_rfl) (by kernel_rfl) (by kernel_rfl) (fun _ _ _ h => h) (by rfl) ?_ ?_
        rotate_left
        · intro W hW; have hW0 := Frm.tr E7.out hW; clear hW; go_simp <;> with_reducible rfl
        try simp only [Act.put, List.setIfInBounds_toArray, List.set_cons_zero, List.set_cons_succ]
        refine rz_take [15, 21, 22] (i := 14) (v := ?_) rfl (by kernel_rfl) (by kernel_rfl) (by kernel_rfl) (by kernel_rfl) (by kernel_rfl) (by kernel_rfl) (fun _ _ _ h => h) (by rfl) ?_ ?_
        rotate_left
        · intro W hW; have hW0 := Frm.tr E7.out hW; clear hW; go_simp <;> with_reducible rfl
        try simp only [Act.put, List.setIfInBounds_toArray, List.set_cons_zero, List.set_cons_succ]
        refine rz_take [21, 22] (i := 15) (v := ?_) rfl (by kernel_rfl) (by kernel_rfl) (by kernel_rfl) (by kernel_rfl) (by kernel_rfl) (by kernel_rfl) (fun _ _ _ h => h) (by rfl) ?_ ?_
        rotate_left
        · intro W hW; have hW0 := Frm.tr E7.out hW; clear hW; go_simp <;> with_reducible rfl
        try simp only [Act.put, List.setIfInBounds_toArray, List.set_cons_zero, List.set_cons_succ]
        refine rz_take [18, 19, 20, 21, 22] (i := 16) (v := ?_) rfl (by kernel_rfl) (by kernel_rfl) (by kernel_rfl) (by kernel_rfl) (by kernel_rfl) (by kernel_rfl) (fun _ _ _ h => h) (by rfl) ?_ ?_
        rotate_left
        · intro W hW; have hW0 := Frm.tr E7.out hW; clear hW; go_simp <;> with_reducible rfl
        try simp only [Act.put, List.setIfInBounds_toArray, List.set_cons_zero, List.set_cons_succ]
        refine rz_take [18, 19, 20, 21, 22] (i := 17) (v := ?_) rfl (by kernel_rfl) (by kernel_rfl) (by kernel_rfl) (by kernel_rfl) (by kernel_rfl) (by kernel_rfl) (fun _ _ _ h => h) (by rfl) ?_ ?_
        rotate_left
        · intro W hW; have hW0 := Frm.tr E7.out hW; clear hW; go_simp <;> with_reducible rfl
        try simp only [Act.put, List.setIfInBounds_toArray, List.set_cons_zero, List.set_cons_succ]
        refine rz_take [19, 20, 21, 22] (i := 18) (v := ?_) rfl (by kernel_rfl) (by kernel_rfl) (by kernel_rfl) (by kernel_rfl) (by kernel_rfl) (by kernel_rfl) (fun _ _ _ h => h) (by rfl) ?_ ?_
        rotate_left
        · intro W hW; have hW0 := Frm.tr E7.out hW; clear hW; go_simp <;> with_reducible rfl
        try simp only [Act.put, List.setIfInBounds_toArray, List.set_cons_zero, List.set_cons_succ]
        refine rz_take [20, 21, 22] (i := 19) (v := ?_) rfl (by kernel_rfl) (by kernel_rfl) (by kernel_rfl) (by kernel_rfl) (by kernel_rfl) (by kernel_rfl) (fun _ _ _ h => h) (by rfl) ?_ ?_
        rotate_left
        · intro W hW; have hW0 := Frm.tr E7.out hW; clear hW; go_simp <;> with_reducible rfl
        try simp only [Act.put, List.setIfInBounds_toArray, List.set_cons_zero, List.set_cons_succ]
        refine rz_take [21, 22] (i := 20) (v := ?_) rfl (by kernel_rfl) (by kernel_rfl) (by kernel_rfl) (by kernel_rfl) (by kernel_rfl) (by kernel_rfl) (fun _ _ _ h => h) (by rfl) ?_ ?_
        rotate_left
        · intro W hW; have hW0 := Frm.tr E7.out hW; clear hW; go_simp <;> with_reducible rfl
        try simp only [Act.put, List.setIfInBounds_toArray, List.set_cons_zero, List.set_cons_succ]
        refine rz_call (i := 21) rfl (by kernel_rfl) (by rfl) (fun K hK => ?_)
        go_simp
        (go_at_call 14; (with_reducible refine (CA.out _ (Ext.drewR (Ext.refl wr))).mono ?_); rintro e w1 ⟨rfl, hout⟩; have HOUT := Lib.hid hout; obtain ⟨_, _, hx, _⟩ := hout; refine hK _ _ hx ?_; clear hK K)
        have Ew1 := Lib.hid (Frm.tr E7.out hx)
        clear hx
        try simp only [Act.put, List.setIfInBounds_toArray, List.set_cons_zero, List.set_cons_succ]
        refine rz_take [] (i := 22) (v := ?_) rfl (by kernel_rfl) (by kernel_rfl) (by kernel_rfl) (by kernel_rfl) (by kernel_rfl) (by kernel_rfl) (fun _ _ _ h => h) (by rfl) ?_ ?_
        rotate_left
        · intro W hW; have hW0 := Frm.tr Ew1.out hW; clear hW; go_simp <;> with_reducible rfl
        try simp only [Act.put, List.setIfInBounds_toArray, List.set_cons_zero, List.set_cons_succ]
        refine rz_done (by kernel_rfl) ?_ _
        have HWD : Hid (Ext w wr.drew) := Ext.drewR HX.out
        clear z0 z1 z2 z9 z10 z11 z12 z13
        go_wp2
        obtain ⟨G', hP', hF', hG'⟩ := HOUT.out
        have hX1 : Ext w w1 := Frm.step HWD.out hF' HWD.out.size (fun k hk => by rw [← HPW.out]; exact (HPA.out.sel k hk).1)
        clear CA
        by_cases hE : E = 0
        · subst hE
          rw [if_pos rfl] at hP'
          have hP'2 := hP'
          obtain ⟨_, v, l0, l1, l2, l3, o0, o1, o2, o3, L', kP, _, _, hown, _, hL', hin⟩ := hP'
          obtain ⟨_, A', cap', rfl, hcap', hacs⟩ := ownA_view hown (fun t ht => (hin t ht).sl)
          have hLL : L'.length = j + 1 := by
            have h5 := congrArg List.length hL'
            rw [HAS.out, List.length_map, List.length_append, HJL.out] at h5
            simpa using h5
          obtain ⟨t', ht'⟩ : ∃ t', L'[j]? = some t' := ⟨_, List.getElem?_eq_getElem (by omega)⟩
          have hx' : t'.x = stA st ⟨cl, sq, true, ⟨qc, qs, qk, qi, qm, qd⟩, ⟨rc, rv, rd, rl⟩, at9⟩ := by
            have h5 := congrArg (fun l => l[j]?) hL'
            simp only [List.getElem?_map, ht', HAS.out, Option.map_some] at h5
            rw [List.getElem?_append_right (by have := HJL.out; omega), HJL.out, Nat.sub_self] at h5
            simpa using h5
          obtain ⟨b', o', rfl, hc', hsa'⟩ := hacs j t' ht'
          obtain ⟨tx', tA', tc'⟩ := t'
          obtain ⟨cl', sq', ans', ⟨qc', qs', qk', qi', qm', qd'⟩, ⟨rc', rv', rd', rl'⟩, at9'⟩ := tx'
          simp only at hx' hc' hsa'
          obtain ⟨rn', hrn'⟩ : ∃ r, r = rl'.length := ⟨_, rfl⟩
          have hrl' : rl'.length ≤ 1000000 := by
            have h5 := congrArg (fun z => z.r.l) hx'
            unfold stA at h5
            simp [Rpv.zero] at h5
            rw [h5]
            exact hrl
          have CZ : Hid (∀ b, sameAc ⟨cl', sq', ans', ⟨qc', qs', qk', qi', qm', qd'⟩, ⟨rc', rv', rd', rl'⟩, at9'⟩ ⟨cl, sq, true, ⟨qc, qs, qk, qi, qm, qd⟩, ⟨rc, rv, rd, rl⟩, at9⟩ = b → ∀ V, Ext w1 V → Calls Try.prog 39 #[.agg #[.int .i64 cl', .int .i64 sq', .bool ans', .int .i64 qc', .int .i64 qs', .int .i64 qk', .int .i64 qi', .int .i64 qm', .string qd', .int .i64 rc', .int .i64 rv', .string rd', .slice tA' rn' tc', .int .i64 at9'], .agg #[.int .i64 cl, .int .i64 sq, .bool true, .int .i64 qc, .int .i64 qs, .int .i64 qk, .int .i64 qi, .int .i64 qm, .string qd, .int .i64 rc, .int .i64 rv, .string rd, .slice tA rn tc, .int .i64 at9]] V fun e w' => e = .returned (.bool b) ∧ Ext V w') := fun b hb V h => by
            have h7 := refSame_any cl' sq' ans' qc' qs' qk' qi' qm' qd' rc' rv' rd' rl' at9' cl sq true qc qs qk qi qm qd rc rv rd rl at9 tA' tA tc' tc V (by omega) (by omega) (hsa'.stay h) ((HSA0.out.stay hX1).stay h)
            rw [← HRN.out, ← hrn', hb] at h7
            exact h7
          have X1 := Lib.hid hX1
          have E0 : Hid (Ext w1 w1) := Ext.refl _
          have HP2 := Lib.hid hP'2
          have HS1 : Hid (¬ sameAc ⟨cl', sq', ans', ⟨qc', qs', qk', qi', qm', qd'⟩, ⟨rc', rv', rd', rl'⟩, at9'⟩ ⟨cl, sq, true, ⟨qc, qs, qk, qi, qm, qd⟩, ⟨rc, rv, rd, rl⟩, at9⟩ = true → decide (mayF (L.map At.x)) = false) := fun h => HS.out (fun h2 => h (by rw [hx']; exact h2.2))
          have HGO2 : Hid (sameAc ⟨cl', sq', ans', ⟨qc', qs', qk', qi', qm', qd'⟩, ⟨rc', rv', rd', rl'⟩, at9'⟩ ⟨cl, sq, true, ⟨qc, qs, qk, qi, qm, qd⟩, ⟨rc, rv, rd, rl⟩, at9⟩ = true → runF .init ((L.map At.x).take (j + 1)) = some (stS st ⟨cl, sq, true, ⟨qc, qs, qk, qi, qm, qd⟩, ⟨rc, rv, rd, rl⟩, at9⟩)) := fun h => HGO.out rfl (by rw [← hx']; exact h)
          have d0 : w1.cell? _ = some (.int .i64 cl') := hc' 0 (by decide)
          have d1 : w1.cell? _ = some (.int .i64 sq') := hc' 1 (by decide)
          have d2 : w1.cell? _ = some (.bool ans') := hc' 2 (by decide)
          have d3 : w1.cell? _ = some (.int .i64 qc') := hc' 3 (by decide)
          have d4 : w1.cell? _ = some (.int .i64 qs') := hc' 4 (by decide)
          have d5 : w1.cell? _ = some (.int .i64 qk') := hc' 5 (by decide)
          have d6 : w1.cell? _ = some (.int .i64 qi') := hc' 6 (by decide)
          have d7 : w1.cell? _ = some (.int .i64 qm') := hc' 7 (by decide)
          have d8 : w1.cell? _ = some (.string qd') := hc' 8 (by decide)
          have d9 : w1.cell? _ = some (.int .i64 rc') := hc' 9 (by decide)
          have d10 : w1.cell? _ = some (.int .i64 rv') := hc' 10 (by decide)
          have d11 : w1.cell? _ = some (.string rd') := hc' 11 (by decide)
          have d12 : w1.cell? _ = some (.slice tA' rl'.length tc') := hc' 12 (by decide)
          have d13 : w1.cell? _ = some (.int .i64 at9') := hc' 13 (by decide)
          rw [← hrn'] at d12
          simp only [Nat.add_zero] at d0
          have kv := kP.cell 0
          simp at kv
          rw [hLL] at kv
          have y0 : ∀ W, Ext w1 W → W.cell? _ = _ := fun W h => cell_stay (Ext.trans X1.out h) (HQ0.out)
          have x0 : ∀ W, Ext w1 W → W.cell? _ = _ := fun W h => cell_stay h d0
          have y1 : ∀ W, Ext w1 W → W.cell? _ = _ := fun W h => cell_stay (Ext.trans X1.out h) (HQ1.out)
          have x1 : ∀ W, Ext w1 W → W.cell? _ = _ := fun W h => cell_stay h d1
          have y2 : ∀ W, Ext w1 W → W.cell? _ = _ := fun W h => cell_stay (Ext.trans X1.out h) (HQ2.out)
          have x2 : ∀ W, Ext w1 W → W.cell? _ = _ := fun W h => cell_stay h d2
          have y3 : ∀ W, Ext w1 W → W.cell? _ = _ := fun W h => cell_stay (Ext.trans X1.out h) (HQ3.out)
          have x3 : ∀ W, Ext w1 W → W.cell? _ = _ := fun W h => cell_stay h d3
          have y4 : ∀ W, Ext w1 W → W.cell? _ = _ := fun W h => cell_stay (Ext.trans X1.out h) (HQ4.out)
          have x4 : ∀ W, Ext w1 W → W.cell? _ = _ := fun W h => cell_stay h d4
          have y5 : ∀ W, Ext w1 W → W.cell? _ = _ := fun W h => cell_stay (Ext.trans X1.out h) (HQ5.out)
          have x5 : ∀ W, Ext w1 W → W.cell? _ = _ := fun W h => cell_stay h d5
          have y6 : ∀ W, Ext w1 W → W.cell? _ = _ := fun W h => cell_stay (Ext.trans X1.out h) (HQ6.out)
          have x6 : ∀ W, Ext w1 W → W.cell? _ = _ := fun W h => cell_stay h d6
          have y7 : ∀ W, Ext w1 W → W.cell? _ = _ := fun W h => cell_stay (Ext.trans X1.out h) (HQ7.out)
          have x7 : ∀ W, Ext w1 W → W.cell? _ = _ := fun W h => cell_stay h d7
          have y8 : ∀ W, Ext w1 W → W.cell? _ = _ := fun W h => cell_stay (Ext.trans X1.out h) (HQ8.out)
          have x8 : ∀ W, Ext w1 W → W.cell? _ = _ := fun W h => cell_stay h d8
          have y9 : ∀ W, Ext w1 W → W.cell? _ = _ := fun W h => cell_stay (Ext.trans X1.out h) (HQ9.out)
          have x9 : ∀ W, Ext w1 W → W.cell? _ = _ := fun W h => cell_stay h d9
          have y10 : ∀ W, Ext w1 W → W.cell? _ = _ := fun W h => cell_stay (Ext.trans X1.out h) (HQ10.out)
          have x10 : ∀ W, Ext w1 W → W.cell? _ = _ := fun W h => cell_stay h d10
          have y11 : ∀ W, Ext w1 W → W.cell? _ = _ := fun W h => cell_stay (Ext.trans X1.out h) (HQ11.out)
          have x11 : ∀ W, Ext w1 W → W.cell? _ = _ := fun W h => cell_stay h d11
          have y12 : ∀ W, Ext w1 W → W.cell? _ = _ := fun W h => cell_stay (Ext.trans X1.out h) (HQ12.out)
          have x12 : ∀ W, Ext w1 W → W.cell? _ = _ := fun W h => cell_stay h d12
          have y13 : ∀ W, Ext w1 W → W.cell? _ = _ := fun W h => cell_stay (Ext.trans X1.out h) (HQ13.out)
          have x13 : ∀ W, Ext w1 W → W.cell? _ = _ := fun W h => cell_stay h d13
          have y14 : ∀ W, Ext w1 W → W.cell? _ = _ := fun W h => cell_stay h kv
          have hmm : (j : Int) < (j : Int) + 1 := by omega
          clear hP'2 hX1 hx' hc' hsa' hacs kP hown hin hL' hF' hG' ht' hrn' hrl' hcap' hLL d0 d1 d2 d3 d4 d5 d6 d7 d8 d9 d10 d11 d12 d13 kv HGO
          cases hsm : sameAc ⟨cl', sq', ans', ⟨qc', qs', qk', qi', qm', qd'⟩, ⟨rc', rv', rd', rl'⟩, at9'⟩ ⟨cl, sq, true, ⟨qc, qs, qk, qi, qm, qd⟩, ⟨rc, rv, rd, rl⟩, at9⟩ with
          | true =>
            have CT := Lib.hid (CZ.out true hsm)
            have HR1 := Lib.hid (HGO2.out hsm)
            clear CZ HGO2 HS1 hsm
            refine ext_begin (by kernel_rfl) ?_
            have E0d := Lib.hid (Ext.drewR E0.out)
            refine ext_take (i := 0) (v := ?_) rfl (by kernel_rfl) (by kernel_rfl) (by kernel_rfl) (fun _ _ _ h => h) (by rfl) ?_ ?_
            rotate_left
            · intro W hW; have hW0 := Ext.trans E0d.out hW; clear hW; go_simp <;> with_reducible rfl
            try simp only [Act.put, List.setIfInBounds_toArray, List.set_cons_zero, List.set_cons_succ]
            refine ext_take (i := 1) (v := .bool false) rfl (by kernel_rfl) (by kernel_rfl) (by kernel_rfl) (fun _ _ _ h => h) (by rfl) ?_ ?_
            · intro W hW; have hW0 := Ext.trans E0d.out hW; clear hW; go_simp; all_goals (first | done | rfl)
            try simp only [Act.put, List.setIfInBounds_toArray, List.set_cons_zero, List.set_cons_succ]
            refine ext_take (i := 2) (v := ?_) rfl (by kernel_rfl) (by kernel_rfl) (by kernel_rfl) (fun _ _ _ h => h) (by rfl) ?_ ?_
            rotate_left
            · intro W hW; have hW0 := Ext.trans E0d.out hW; clear hW; go_simp <;> with_reducible rfl
            try simp only [Act.put, List.setIfInBounds_toArray, List.set_cons_zero, List.set_cons_succ]
            refine ext_take (i := 3) (v := ?_) rfl (by kernel_rfl) (by kernel_rfl) (by kernel_rfl) (fun _ _ _ h => h) (by rfl) ?_ ?_
            rotate_left
            · intro W hW; have hW0 := Ext.trans E0d.out hW; clear hW; go_simp <;> with_reducible rfl
            try simp only [Act.put, List.setIfInBounds_toArray, List.set_cons_zero, List.set_cons_succ]
            refine ext_take (i := 4) (v := ?_) rfl (by kernel_rfl) (by kernel_rfl) (by kernel_rfl) (fun _ _ _ h => h) (by rfl) ?_ ?_
            rotate_left
            · intro W hW; have hW0 := Ext.trans E0d.out hW; clear hW; go_simp <;> with_reducible rfl
            try simp only [Act.put, List.setIfInBounds_toArray, List.set_cons_zero, List.set_cons_succ]
            refine ext_take (i := 5) (v := ?_) rfl (by kernel_rfl) (by kernel_rfl) (by kernel_rfl) (fun _ _ _ h => h) (by rfl) ?_ ?_
            rotate_left
            · intro W hW; have hW0 := Ext.trans E0d.out hW; clear hW; go_simp <;> with_reducible rfl
            try simp only [Act.put, List.setIfInBounds_toArray, List.set_cons_zero, List.set_cons_succ]
            refine ext_take (i := 6) (v := ?_) rfl (by kernel_rfl) (by kernel_rfl) (by kernel_rfl) (fun _ _ _ h => h) (by rfl) ?_ ?_
            rotate_left
            · intro W hW; have hW0 := Ext.trans E0d.out hW; clear hW; go_simp <;> with_reducible rfl
            try simp only [Act.put, List.setIfInBounds_toArray, List.set_cons_zero, List.set_cons_succ]
            refine ext_take (i := 7) (v := ?_) rfl (by kernel_rfl) (by kernel_rfl) (by kernel_rfl) (fun _ _ _ h => h) (by rfl) ?_ ?_
            rotate_left
            · intro W hW; have hW0 := Ext.trans E0d.out hW; clear hW; go_simp <;> with_reducible rfl
            try simp only [Act.put, List.setIfInBounds_toArray, List.set_cons_zero, List.set_cons_succ]
            refine ext_take (i := 8) (v := ?_) rfl (by kernel_rfl) (by kernel_rfl) (by kernel_rfl) (fun _ _ _ h => h) (by rfl) ?_ ?_
            rotate_left
            · intro W hW; have hW0 := Ext.trans E0d.out hW; clear hW; go_simp <;> with_reducible rfl
            try simp only [Act.put, List.setIfInBounds_toArray, List.set_cons_zero, List.set_cons_succ]
            refine ext_take (i := 9) (v := ?_) rfl (by kernel_rfl) (by kernel_rfl) (by kernel_rfl) (fun _ _ _ h => h) (by rfl) ?_ ?_
            rotate_left
            · intro W hW; have hW0 := Ext.trans E0d.out hW; clear hW; go_simp <;> with_reducible rfl
            try simp only [Act.put, List.setIfInBounds_toArray, List.set_cons_zero, List.set_cons_succ]
            refine ext_take (i := 10) (v := ?_) rfl (by kernel_rfl) (by kernel_rfl) (by kernel_rfl) (fun _ _ _ h => h) (by rfl) ?_ ?_
            rotate_left
            · intro W hW; have hW0 := Ext.trans E0d.out hW; clear hW; go_simp <;> with_reducible rfl
            try simp only [Act.put, List.setIfInBounds_toArray, List.set_cons_zero, List.set_cons_succ]
            refine ext_take (i := 11) (v := ?_) rfl (by kernel_rfl) (by kernel_rfl) (by kernel_rfl) (fun _ _ _ h => h) (by rfl) ?_ ?_
            rotate_left
            · intro W hW; have hW0 := Ext.trans E0d.out hW; clear hW; go_simp <;> with_reducible rfl
            try simp only [Act.put, List.setIfInBounds_toArray, List.set_cons_zero, List.set_cons_succ]
            refine ext_take (i := 12) (v := ?_) rfl (by kernel_rfl) (by kernel_rfl) (by kernel_rfl) (fun _ _ _ h => h) (by rfl) ?_ ?_
            rotate_left
            · intro W hW; have hW0 := Ext.trans E0d.out hW; clear hW; go_simp <;> with_reducible rfl
            try simp only [Act.put, List.setIfInBounds_toArray, List.set_cons_zero, List.set_cons_succ]
            refine ext_take (i := 13) (v := ?_) rfl (by kernel_rfl) (by kernel_rfl) (by kernel_rfl) (fun _ _ _ h => h) (by rfl) ?_ ?_
            rotate_left
            · intro W hW; have hW0 := Ext.trans E0d.out hW; clear hW; go_simp <;> with_reducible rfl
            try simp only [Act.put, List.setIfInBounds_toArray, List.set_cons_zero, List.set_cons_succ]
            refine ext_call (i := 14) rfl (by kernel_rfl) (by rfl) (fun K' hK => ?_)
            go_simp
            (go_at_call 39; (with_reducible refine (CT.out _ E0d.out).mono ?_); rintro e w2 ⟨rfl, hx⟩; refine hK _ _ hx ?_; clear hK)
            have Ew2 := Lib.hid (Ext.trans E0d.out hx)
            clear hx
            try simp only [Act.put, List.setIfInBounds_toArray, List.set_cons_zero, List.set_cons_succ]
            refine ext_take (i := 15) (v := ?_) rfl (by kernel_rfl) (by kernel_rfl) (by kernel_rfl) (fun _ _ _ h => h) (by rfl) ?_ ?_
            rotate_left
            · intro W hW; have hW0 := Ext.trans Ew2.out hW; clear hW; go_simp <;> with_reducible rfl
            try simp only [Act.put, List.setIfInBounds_toArray, List.set_cons_zero, List.set_cons_succ]
            refine ext_take (i := 16) (v := ?_) rfl (by kernel_rfl) (by kernel_rfl) (by kernel_rfl) (fun _ _ _ h => h) (by rfl) ?_ ?_
            rotate_left
            · intro W hW; have hW0 := Ext.trans Ew2.out hW; clear hW; go_simp <;> with_reducible rfl
            try simp only [Act.put, List.setIfInBounds_toArray, List.set_cons_zero, List.set_cons_succ]
            refine wpAnyH_done (by kernel_rfl) ?_ _
            go_wp2
            go_roundw
            case rel => exact ⟨j + 1, _, G', by omega, by go_num, HR1.out, HP2.out.stay Ew2.out, Ext.trans X1.out Ew2.out⟩
            case measure => simp [intOf]; omega
          | false =>
            have CT := Lib.hid (CZ.out false hsm)
            have HD0 := Lib.hid (HS1.out (by rw [hsm]; decide))
            clear CZ HGO2 HS1 hsm
            refine ext_begin (by kernel_rfl) ?_
            have E0d := Lib.hid (Ext.drewR E0.out)
            refine ext_take (i := 0) (v := ?_) rfl (by kernel_rfl) (by kernel_rfl) (by kernel_rfl) (fun _ _ _ h => h) (by rfl) ?_ ?_
            rotate_left
            · intro W hW; have hW0 := Ext.trans E0d.out hW; clear hW; go_simp <;> with_reducible rfl
            try simp only [Act.put, List.setIfInBounds_toArray, List.set_cons_zero, List.set_cons_succ]
            refine ext_take (i := 1) (v := .bool false) rfl (by kernel_rfl) (by kernel_rfl) (by kernel_rfl) (fun _ _ _ h => h) (by rfl) ?_ ?_
            · intro W hW; have hW0 := Ext.trans E0d.out hW; clear hW; go_simp; all_goals (first | done | rfl)
            try simp only [Act.put, List.setIfInBounds_toArray, List.set_cons_zero, List.set_cons_succ]
            refine ext_take (i := 2) (v := ?_) rfl (by kernel_rfl) (by kernel_rfl) (by kernel_rfl) (fun _ _ _ h => h) (by rfl) ?_ ?_
            rotate_left
            · intro W hW; have hW0 := Ext.trans E0d.out hW; clear hW; go_simp <;> with_reducible rfl
            try simp only [Act.put, List.setIfInBounds_toArray, List.set_cons_zero, List.set_cons_succ]
            refine ext_take (i := 3) (v := ?_) rfl (by kernel_rfl) (by kernel_rfl) (by kernel_rfl) (fun _ _ _ h => h) (by rfl) ?_ ?_
            rotate_left
            · intro W hW; have hW0 := Ext.trans E0d.out hW; clear hW; go_simp <;> with_reducible rfl
            try simp only [Act.put, List.setIfInBounds_toArray, List.set_cons_zero, List.set_cons_succ]
            refine ext_take (i := 4) (v := ?_) rfl (by kernel_rfl) (by kernel_rfl) (by kernel_rfl) (fun _ _ _ h => h) (by rfl) ?_ ?_
            rotate_left
            · intro W hW; have hW0 := Ext.trans E0d.out hW; clear hW; go_simp <;> with_reducible rfl
            try simp only [Act.put, List.setIfInBounds_toArray, List.set_cons_zero, List.set_cons_succ]
            refine ext_take (i := 5) (v := ?_) rfl (by kernel_rfl) (by kernel_rfl) (by kernel_rfl) (fun _ _ _ h => h) (by rfl) ?_ ?_
            rotate_left
            · intro W hW; have hW0 := Ext.trans E0d.out hW; clear hW; go_simp <;> with_reducible rfl
            try simp only [Act.put, List.setIfInBounds_toArray, List.set_cons_zero, List.set_cons_succ]
            refine ext_take (i := 6) (v := ?_) rfl (by kernel_rfl) (by kernel_rfl) (by kernel_rfl) (fun _ _ _ h => h) (by rfl) ?_ ?_
            rotate_left
            · intro W hW; have hW0 := Ext.trans E0d.out hW; clear hW; go_simp <;> with_reducible rfl
            try simp only [Act.put, List.setIfInBounds_toArray, List.set_cons_zero, List.set_cons_succ]
            refine ext_take (i := 7) (v := ?_) rfl (by kernel_rfl) (by kernel_rfl) (by kernel_rfl) (fun _ _ _ h => h) (by rfl) ?_ ?_
            rotate_left
            · intro W hW; have hW0 := Ext.trans E0d.out hW; clear hW; go_simp <;> with_reducible rfl
            try simp only [Act.put, List.setIfInBounds_toArray, List.set_cons_zero, List.set_cons_succ]
            refine ext_take (i := 8) (v := ?_) rfl (by kernel_rfl) (by kernel_rfl) (by kernel_rfl) (fun _ _ _ h => h) (by rfl) ?_ ?_
            rotate_left
            · intro W hW; have hW0 := Ext.trans E0d.out hW; clear hW; go_simp <;> with_reducible rfl
            try simp only [Act.put, List.setIfInBounds_toArray, List.set_cons_zero, List.set_cons_succ]
            refine ext_take (i := 9) (v := ?_) rfl (by kernel_rfl) (by kernel_rfl) (by kernel_rfl) (fun _ _ _ h => h) (by rfl) ?_ ?_
            rotate_left
            · intro W hW; have hW0 := Ext.trans E0d.out hW; clear hW; go_simp <;> with_reducible rfl
            try simp only [Act.put, List.setIfInBounds_toArray, List.set_cons_zero, List.set_cons_succ]
            refine ext_take (i := 10) (v := ?_) rfl (by kernel_rfl) (by kernel_rfl) (by kernel_rfl) (fun _ _ _ h => h) (by rfl) ?_ ?_
            rotate_left
            · intro W hW; have hW0 := Ext.trans E0d.out hW; clear hW; go_simp <;> with_reducible rfl
            try simp only [Act.put, List.setIfInBounds_toArray, List.set_cons_zero, List.set_cons_succ]
            refine ext_take (i := 11) (v := ?_) rfl (by kernel_rfl) (by kernel_rfl) (by kernel_rfl) (fun _ _ _ h => h) (by rfl) ?_ ?_
            rotate_left
            · intro W hW; have hW0 := Ext.trans E0d.out hW; clear hW; go_simp <;> with_reducible rfl
            try simp only [Act.put, List.setIfInBounds_toArray, List.set_cons_zero, List.set_cons_succ]
            refine ext_take (i := 12) (v := ?_) rfl (by kernel_rfl) (by kernel_rfl) (by kernel_rfl) (fun _ _ _ h => h) (by rfl) ?_ ?_
            rotate_left
            · intro W hW; have hW0 := Ext.trans E0d.out hW; clear hW; go_simp <;> with_reducible rfl
            try simp only [Act.put, List.setIfInBounds_toArray, List.set_cons_zero, List.set_cons_succ]
            refine ext_take (i := 13) (v := ?_) rfl (by kernel_rfl) (by kernel_rfl) (by kernel_rfl) (fun _ _ _ h => h) (by rfl) ?_ ?_
            rotate_left
            · intro W hW; have hW0 := Ext.trans E0d.out hW; clear hW; go_simp <;> with_reducible rfl
            try simp only [Act.put, List.setIfInBounds_toArray, List.set_cons_zero, List.set_cons_succ]
            refine ext_call (i := 14) rfl (by kernel_rfl) (by rfl) (fun K' hK => ?_)
            go_simp
            (go_at_call 39; (with_reducible refine (CT.out _ E0d.out).mono ?_); rintro e w2 ⟨rfl, hx⟩; refine hK _ _ hx ?_; clear hK)
            have Ew2 := Lib.hid (Ext.trans E0d.out hx)
            clear hx
            try simp only [Act.put, List.setIfInBounds_toArray, List.set_cons_zero, List.set_cons_succ]
            refine ext_take (i := 15) (v := ?_) rfl (by kernel_rfl) (by kernel_rfl) (by kernel_rfl) (fun _ _ _ h => h) (by rfl) ?_ ?_
            rotate_left
            · intro W hW; have hW0 := Ext.trans Ew2.out hW; clear hW; go_simp <;> with_reducible rfl
            try simp only [Act.put, List.setIfInBounds_toArray, List.set_cons_zero, List.set_cons_succ]
            refine ext_take (i := 16) (v := ?_) rfl (by kernel_rfl) (by kernel_rfl) (by kernel_rfl) (fun _ _ _ h => h) (by rfl) ?_ ?_
            rotate_left
            · intro W hW; have hW0 := Ext.trans Ew2.out hW; clear hW; go_simp <;> with_reducible rfl
            try simp only [Act.put, List.setIfInBounds_toArray, List.set_cons_zero, List.set_cons_succ]
            refine wpAnyH_done (by kernel_rfl) ?_ _
            go_wp2
            try go_ret
            exact hD.out _ _ ⟨by first | (rw [HD0.out]; done) | (rw [HD0.out]; rfl), Ext.trans X1.out Ew2.out⟩
        · have HD0 := Lib.hid (HS.out (fun h => hE h.1))
          have E0 := Lib.hid hX1
          clear hP' hF' hG' hX1
          refine ext_begin (by kernel_rfl) ?_
          have E0d := Lib.hid (Ext.drewR E0.out)
          refine ext_take (i := 0) (v := ?_) rfl (by kernel_rfl) (by kernel_rfl) (by kernel_rfl) (fun _ _ _ h => h) (by rfl) ?_ ?_
          rotate_left
          · intro W hW; have hW0 := Ext.trans E0d.out hW; clear hW; go_simp <;> with_reducible rfl
          try simp only [Act.put, List.setIfInBounds_toArray, List.set_cons_zero, List.set_cons_succ]
          refine ext_take (i := 1) (v := .bool true) rfl (by kernel_rfl) (by kernel_rfl) (by kernel_rfl) (fun _ _ _ h => h) (by rfl) ?_ ?_
          · intro W hW; have hW0 := Ext.trans E0d.out hW; clear hW; go_simp; all_goals (first | done | (simp [hE]; done))
          try simp only [Act.put, List.setIfInBounds_toArray, List.set_cons_zero, List.set_cons_succ]
          refine ext_take (i := 2) (v := ?_) rfl (by kernel_rfl) (by kernel_rfl) (by kernel_rfl) (fun _ _ _ h => h) (by rfl) ?_ ?_
          rotate_left
          · intro W hW; have hW0 := Ext.trans E0d.out hW; clear hW; go_simp <;> with_reducible rfl
          try simp only [Act.put, List.setIfInBounds_toArray, List.set_cons_zero, List.set_cons_succ]
          refine ext_skip (i := 3) rfl (by kernel_rfl) (by kernel_rfl) (by kernel_rfl) (fun _ _ _ h => h) (by rfl) ?_
          try simp only [Act.put, List.setIfInBounds_toArray, List.set_cons_zero, List.set_cons_succ]
          refine ext_skip (i := 4) rfl (by kernel_rfl) (by kernel_rfl) (by kernel_rfl) (fun _ _ _ h => h) (by rfl) ?_
          try simp only [Act.put, List.setIfInBounds_toArray, List.set_cons_zero, List.set_cons_succ]
          refine ext_skip (i := 5) rfl (by kernel_rfl) (by kernel_rfl) (by kernel_rfl) (fun _ _ _ h => h) (by rfl) ?_
          try simp only [Act.put, List.setIfInBounds_toArray, List.set_cons_zero, List.set_cons_succ]
          refine ext_skip (i := 6) rfl (by kernel_rfl) (by kernel_rfl) (by kernel_rfl) (fun _ _ _ h => h) (by rfl) ?_
          try simp only [Act.put, List.setIfInBounds_toArray, List.set_cons_zero, List.set_cons_succ]
          refine ext_skip (i := 7) rfl (by kernel_rfl) (by kernel_rfl) (by kernel_rfl) (fun _ _ _ h => h) (by rfl) ?_
          try simp only [Act.put, List.setIfInBounds_toArray, List.set_cons_zero, List.set_cons_succ]
          refine ext_skip (i := 8) rfl (by kernel_rfl) (by kernel_rfl) (by kernel_rfl) (fun _ _ _ h => h) (by rfl) ?_
          try simp only [Act.put, List.setIfInBounds_toArray, List.set_cons_zero, List.set_cons_succ]
          refine ext_skip (i := 9) rfl (by kernel_rfl) (by kernel_rfl) (by kernel_rfl) (fun _ _ _ h => h) (by rfl) ?_
          try simp only [Act.put, List.setIfInBounds_toArray, List.set_cons_zero, List.set_cons_succ]
          refine ext_skip (i := 10) rfl (by kernel_rfl) (by kernel_rfl) (by kernel_rfl) (fun _ _ _ h => h) (by rfl) ?_
          try simp only [Act.put, List.setIfInBounds_toArray, List.set_cons_zero, List.set_cons_succ]
          refine ext_skip (i := 11) rfl (by kernel_rfl) (by kernel_rfl) (by kernel_rfl) (fun _ _ _ h => h) (by rfl) ?_
          try simp only [Act.put, List.setIfInBounds_toArray, List.set_cons_zero, List.set_cons_succ]
          refine ext_skip (i := 12) rfl (by kernel_rfl) (by kernel_rfl) (by kernel_rfl) (fun _ _ _ h => h) (by rfl) ?_
          try simp only [Act.put, List.setIfInBounds_toArray, List.set_cons_zero, List.set_cons_succ]
          refine ext_skip (i := 13) rfl (by kernel_rfl) (by kernel_rfl) (by kernel_rfl) (fun _ _ _ h => h) (by rfl) ?_
          try simp only [Act.put, List.setIfInBounds_toArray, List.set_cons_zero, List.set_cons_succ]
          refine ext_skip (i := 14) rfl (by kernel_rfl) (by kernel_rfl) (by kernel_rfl) (fun _ _ _ h => h) (by rfl) ?_
          try simp only [Act.put, List.setIfInBounds_toArray, List.set_cons_zero, List.set_cons_succ]
          refine ext_skip (i := 15) rfl (by kernel_rfl) (by kernel_rfl) (by kernel_rfl) (fun _ _ _ h => h) (by rfl) ?_
          try simp only [Act.put, List.setIfInBounds_toArray, List.set_cons_zero, List.set_cons_succ]
          refine ext_take (i := 16) (v := ?_) rfl (by kernel_rfl) (by kernel_rfl) (by kernel_rfl) (fun _ _ _ h => h) (by rfl) ?_ ?_
          rotate_left
          · intro W hW; have hW0 := Ext.trans E0d.out hW; clear hW; go_simp <;> with_reducible rfl
          try simp only [Act.put, List.setIfInBounds_toArray, List.set_cons_zero, List.set_cons_succ]
          refine wpAnyH_done (by kernel_rfl) ?_ _
          go_wp2
          try go_ret
          exact hD.out _ _ ⟨by first | (rw [HD0.out]; done) | (rw [HD0.out]; rfl), E0d.out⟩
      | false =>
        have heq : stE st ⟨cl, sq, false, ⟨qc, qs, qk, qi, qm, qd⟩, ⟨rc, rv, rd, rl⟩, at9⟩ = askE st ⟨qc, qs, qk, qi, qm, qd⟩ := by unfold stE; simp
        have heqn : (if stE st ⟨cl, sq, false, ⟨qc, qs, qk, qi, qm, qd⟩, ⟨rc, rv, rd, rl⟩, at9⟩ = 0 then stS st ⟨cl, sq, false, ⟨qc, qs, qk, qi, qm, qd⟩, ⟨rc, rv, rd, rl⟩, at9⟩ else st) = askN st ⟨qc, qs, qk, qi, qm, qd⟩ := by unfold askN; rw [heq]; unfold stS; simp
        have CA : Hid (∀ V, Ext wr V → Calls Try.prog 12 #[.pointer (some ⟨P, 0, none⟩), .agg #[.int .i64 qc, .int .i64 qs, .int .i64 qk, .int .i64 qi, .int .i64 qm, .string qd]] V fun e w' => e = .returned (.int .i64 (stE st ⟨cl, sq, false, ⟨qc, qs, qk, qi, qm, qd⟩, ⟨rc, rv, rd, rl⟩, at9⟩)) ∧ ROut V w' P P G (if stE st ⟨cl, sq, false, ⟨qc, qs, qk, qi, qm, qd⟩, ⟨rc, rv, rd, rl⟩, at9⟩ = 0 then stS st ⟨cl, sq, false, ⟨qc, qs, qk, qi, qm, qd⟩, ⟨rc, rv, rd, rl⟩, at9⟩ else st)) := fun V hV => by
          have hsl : st.acts.length ≤ 1000000 := HSL.out
          have h7 := rask_any P P G st qc qs qk qi qm qd V (HPA.out.stay hV) HK.out hqd hsl
          skip
          rw [heqn, heq]
          exact h7
        have HS : Hid ((stE st ⟨cl, sq, false, ⟨qc, qs, qk, qi, qm, qd⟩, ⟨rc, rv, rd, rl⟩, at9⟩ = 0 ∧ sameAc (stA st ⟨cl, sq, false, ⟨qc, qs, qk, qi, qm, qd⟩, ⟨rc, rv, rd, rl⟩, at9⟩) ⟨cl, sq, false, ⟨qc, qs, qk, qi, qm, qd⟩, ⟨rc, rv, rd, rl⟩, at9⟩ = true → False) → decide (mayF (L.map At.x)) = false) := fun h => by
          rw [decide_eq_false_iff_not]
          refine may_not (j := j + 1) ?_
          rw [HSTEP.out, if_neg h]
        have HGO : Hid (stE st ⟨cl, sq, false, ⟨qc, qs, qk, qi, qm, qd⟩, ⟨rc, rv, rd, rl⟩, at9⟩ = 0 → sameAc (stA st ⟨cl, sq, false, ⟨qc, qs, qk, qi, qm, qd⟩, ⟨rc, rv, rd, rl⟩, at9⟩) ⟨cl, sq, false, ⟨qc, qs, qk, qi, qm, qd⟩, ⟨rc, rv, rd, rl⟩, at9⟩ = true → runF .init ((L.map At.x).take (j + 1)) = some (stS st ⟨cl, sq, false, ⟨qc, qs, qk, qi, qm, qd⟩, ⟨rc, rv, rd, rl⟩, at9⟩)) := fun h1 h2 => by
          rw [HSTEP.out, if_pos ⟨h1, h2⟩]
        have HAS : Hid ((stS st ⟨cl, sq, false, ⟨qc, qs, qk, qi, qm, qd⟩, ⟨rc, rv, rd, rl⟩, at9⟩).acts = st.acts ++ [stA st ⟨cl, sq, false, ⟨qc, qs, qk, qi, qm, qd⟩, ⟨rc, rv, rd, rl⟩, at9⟩]) := stS_acts _ _
        have HST := Lib.hid hst
        clear heq heqn hst
        generalize hEE : stE st ⟨cl, sq, false, ⟨qc, qs, qk, qi, qm, qd⟩, ⟨rc, rv, rd, rl⟩, at9⟩ = E at *
        clear hEE
        have HWD : Hid (Ext w wr) := HX.out
        go_wp2_with (go_at_call 12; (with_reducible refine (CA.out _ (Ext.refl wr)).mono ?_); rintro e w1 ⟨rfl, hout⟩; have HOUT := Lib.hid hout; clear hout)
        clear z0 z1 z2 z9 z10 z11 z12 z13
        obtain ⟨G', hP', hF', hG'⟩ := HOUT.out
        have hX1 : Ext w w1 := Frm.step HWD.out hF' HWD.out.size (fun k hk => by rw [← HPW.out]; exact (HPA.out.sel k hk).1)
        clear CA
        by_cases hE : E = 0
        · subst hE
          rw [if_pos rfl] at hP'
          have hP'2 := hP'
          obtain ⟨_, v, l0, l1, l2, l3, o0, o1, o2, o3, L', kP, _, _, hown, _, hL', hin⟩ := hP'
          obtain ⟨_, A', cap', rfl, hcap', hacs⟩ := ownA_view hown (fun t ht => (hin t ht).sl)
          have hLL : L'.length = j + 1 := by
            have h5 := congrArg List.length hL'
            rw [HAS.out, List.length_map, List.length_append, HJL.out] at h5
            simpa using h5
          obtain ⟨t', ht'⟩ : ∃ t', L'[j]? = some t' := ⟨_, List.getElem?_eq_getElem (by omega)⟩
          have hx' : t'.x = stA st ⟨cl, sq, false, ⟨qc, qs, qk, qi, qm, qd⟩, ⟨rc, rv, rd, rl⟩, at9⟩ := by
            have h5 := congrArg (fun l => l[j]?) hL'
            simp only [List.getElem?_map, ht', HAS.out, Option.map_some] at h5
            rw [List.getElem?_append_right (by have := HJL.out; omega), HJL.out, Nat.sub_self] at h5
            simpa using h5
          obtain ⟨b', o', rfl, hc', hsa'⟩ := hacs j t' ht'
          obtain ⟨tx', tA', tc'⟩ := t'
          obtain ⟨cl', sq', ans', ⟨qc', qs', qk', qi', qm', qd'⟩, ⟨rc', rv', rd', rl'⟩, at9'⟩ := tx'
          simp only at hx' hc' hsa'
          obtain ⟨rn', hrn'⟩ : ∃ r, r = rl'.length := ⟨_, rfl⟩
          have hrl' : rl'.length ≤ 1000000 := by
            have h5 := congrArg (fun z => z.r.l) hx'
            unfold stA at h5
            simp [Rpv.zero] at h5
            rw [h5]
            decide
          have CZ : Hid (∀ b, sameAc ⟨cl', sq', ans', ⟨qc', qs', qk', qi', qm', qd'⟩, ⟨rc', rv', rd', rl'⟩, at9'⟩ ⟨cl, sq, false, ⟨qc, qs, qk, qi, qm, qd⟩, ⟨rc, rv, rd, rl⟩, at9⟩ = b → ∀ V, Ext w1 V → Calls Try.prog 39 #[.agg #[.int .i64 cl', .int .i64 sq', .bool ans', .int .i64 qc', .int .i64 qs', .int .i64 qk', .int .i64 qi', .int .i64 qm', .string qd', .int .i64 rc', .int .i64 rv', .string rd', .slice tA' rn' tc', .int .i64 at9'], .agg #[.int .i64 cl, .int .i64 sq, .bool false, .int .i64 qc, .int .i64 qs, .int .i64 qk, .int .i64 qi, .int .i64 qm, .string qd, .int .i64 rc, .int .i64 rv, .string rd, .slice tA rn tc, .int .i64 at9]] V fun e w' => e = .returned (.bool b) ∧ Ext V w') := fun b hb V h => by
            have h7 := refSame_any cl' sq' ans' qc' qs' qk' qi' qm' qd' rc' rv' rd' rl' at9' cl sq false qc qs qk qi qm qd rc rv rd rl at9 tA' tA tc' tc V (by omega) (by omega) (hsa'.stay h) ((HSA0.out.stay hX1).stay h)
            rw [← HRN.out, ← hrn', hb] at h7
            exact h7
          have X1 := Lib.hid hX1
          have E0 : Hid (Ext w1 w1) := Ext.refl _
          have HP2 := Lib.hid hP'2
          have HS1 : Hid (¬ sameAc ⟨cl', sq', ans', ⟨qc', qs', qk', qi', qm', qd'⟩, ⟨rc', rv', rd', rl'⟩, at9'⟩ ⟨cl, sq, false, ⟨qc, qs, qk, qi, qm, qd⟩, ⟨rc, rv, rd, rl⟩, at9⟩ = true → decide (mayF (L.map At.x)) = false) := fun h => HS.out (fun h2 => h (by rw [hx']; exact h2.2))
          have HGO2 : Hid (sameAc ⟨cl', sq', ans', ⟨qc', qs', qk', qi', qm', qd'⟩, ⟨rc', rv', rd', rl'⟩, at9'⟩ ⟨cl, sq, false, ⟨qc, qs, qk, qi, qm, qd⟩, ⟨rc, rv, rd, rl⟩, at9⟩ = true → runF .init ((L.map At.x).take (j + 1)) = some (stS st ⟨cl, sq, false, ⟨qc, qs, qk, qi, qm, qd⟩, ⟨rc, rv, rd, rl⟩, at9⟩)) := fun h => HGO.out rfl (by rw [← hx']; exact h)
          have d0 : w1.cell? _ = some (.int .i64 cl') := hc' 0 (by decide)
          have d1 : w1.cell? _ = some (.int .i64 sq') := hc' 1 (by decide)
          have d2 : w1.cell? _ = some (.bool ans') := hc' 2 (by decide)
          have d3 : w1.cell? _ = some (.int .i64 qc') := hc' 3 (by decide)
          have d4 : w1.cell? _ = some (.int .i64 qs') := hc' 4 (by decide)
          have d5 : w1.cell? _ = some (.int .i64 qk') := hc' 5 (by decide)
          have d6 : w1.cell? _ = some (.int .i64 qi') := hc' 6 (by decide)
          have d7 : w1.cell? _ = some (.int .i64 qm') := hc' 7 (by decide)
          have d8 : w1.cell? _ = some (.string qd') := hc' 8 (by decide)
          have d9 : w1.cell? _ = some (.int .i64 rc') := hc' 9 (by decide)
          have d10 : w1.cell? _ = some (.int .i64 rv') := hc' 10 (by decide)
          have d11 : w1.cell? _ = some (.string rd') := hc' 11 (by decide)
          have d12 : w1.cell? _ = some (.slice tA' rl'.length tc') := hc' 12 (by decide)
          have d13 : w1.cell? _ = some (.int .i64 at9') := hc' 13 (by decide)
          rw [← hrn'] at d12
          simp only [Nat.add_zero] at d0
          have kv := kP.cell 0
          simp at kv
          rw [hLL] at kv
          have y0 : ∀ W, Ext w1 W → W.cell? _ = _ := fun W h => cell_stay (Ext.trans X1.out h) (HQ0.out)
          have x0 : ∀ W, Ext w1 W → W.cell? _ = _ := fun W h => cell_stay h d0
          have y1 : ∀ W, Ext w1 W → W.cell? _ = _ := fun W h => cell_stay (Ext.trans X1.out h) (HQ1.out)
          have x1 : ∀ W, Ext w1 W → W.cell? _ = _ := fun W h => cell_stay h d1
          have y2 : ∀ W, Ext w1 W → W.cell? _ = _ := fun W h => cell_stay (Ext.trans X1.out h) (HQ2.out)
          have x2 : ∀ W, Ext w1 W → W.cell? _ = _ := fun W h => cell_stay h d2
          have y3 : ∀ W, Ext w1 W → W.cell? _ = _ := fun W h => cell_stay (Ext.trans X1.out h) (HQ3.out)
          have x3 : ∀ W, Ext w1 W → W.cell? _ = _ := fun W h => cell_stay h d3
          have y4 : ∀ W, Ext w1 W → W.cell? _ = _ := fun W h => cell_stay (Ext.trans X1.out h) (HQ4.out)
          have x4 : ∀ W, Ext w1 W → W.cell? _ = _ := fun W h => cell_stay h d4
          have y5 : ∀ W, Ext w1 W → W.cell? _ = _ := fun W h => cell_stay (Ext.trans X1.out h) (HQ5.out)
          have x5 : ∀ W, Ext w1 W → W.cell? _ = _ := fun W h => cell_stay h d5
          have y6 : ∀ W, Ext w1 W → W.cell? _ = _ := fun W h => cell_stay (Ext.trans X1.out h) (HQ6.out)
          have x6 : ∀ W, Ext w1 W → W.cell? _ = _ := fun W h => cell_stay h d6
          have y7 : ∀ W, Ext w1 W → W.cell? _ = _ := fun W h => cell_stay (Ext.trans X1.out h) (HQ7.out)
          have x7 : ∀ W, Ext w1 W → W.cell? _ = _ := fun W h => cell_stay h d7
          have y8 : ∀ W, Ext w1 W → W.cell? _ = _ := fun W h => cell_stay (Ext.trans X1.out h) (HQ8.out)
          have x8 : ∀ W, Ext w1 W → W.cell? _ = _ := fun W h => cell_stay h d8
          have y9 : ∀ W, Ext w1 W → W.cell? _ = _ := fun W h => cell_stay (Ext.trans X1.out h) (HQ9.out)
          have x9 : ∀ W, Ext w1 W → W.cell? _ = _ := fun W h => cell_stay h d9
          have y10 : ∀ W, Ext w1 W → W.cell? _ = _ := fun W h => cell_stay (Ext.trans X1.out h) (HQ10.out)
          have x10 : ∀ W, Ext w1 W → W.cell? _ = _ := fun W h => cell_stay h d10
          have y11 : ∀ W, Ext w1 W → W.cell? _ = _ := fun W h => cell_stay (Ext.trans X1.out h) (HQ11.out)
          have x11 : ∀ W, Ext w1 W → W.cell? _ = _ := fun W h => cell_stay h d11
          have y12 : ∀ W, Ext w1 W → W.cell? _ = _ := fun W h => cell_stay (Ext.trans X1.out h) (HQ12.out)
          have x12 : ∀ W, Ext w1 W → W.cell? _ = _ := fun W h => cell_stay h d12
          have y13 : ∀ W, Ext w1 W → W.cell? _ = _ := fun W h => cell_stay (Ext.trans X1.out h) (HQ13.out)
          have x13 : ∀ W, Ext w1 W → W.cell? _ = _ := fun W h => cell_stay h d13
          have y14 : ∀ W, Ext w1 W → W.cell? _ = _ := fun W h => cell_stay h kv
          have hmm : (j : Int) < (j : Int) + 1 := by omega
          clear hP'2 hX1 hx' hc' hsa' hacs kP hown hin hL' hF' hG' ht' hrn' hrl' hcap' hLL d0 d1 d2 d3 d4 d5 d6 d7 d8 d9 d10 d11 d12 d13 kv HGO
          cases hsm : sameAc ⟨cl', sq', ans', ⟨qc', qs', qk', qi', qm', qd'⟩, ⟨rc', rv', rd', rl'⟩, at9'⟩ ⟨cl, sq, false, ⟨qc, qs, qk, qi, qm, qd⟩, ⟨rc, rv, rd, rl⟩, at9⟩ with
          | true =>
            have CT := Lib.hid (CZ.out true hsm)
            have HR1 := Lib.hid (HGO2.out hsm)
            clear CZ HGO2 HS1 hsm
            refine ext_begin (by kernel_rfl) ?_
            have E0d := Lib.hid (Ext.drewR E0.out)
            refine ext_take (i := 0) (v := ?_) rfl (by kernel_rfl) (by kernel_rfl) (by kernel_rfl) (fun _ _ _ h => h) (by rfl) ?_ ?_
            rotate_left
            · intro W hW; have hW0 := Ext.trans E0d.out hW; clear hW; go_simp <;> with_reducible rfl
            try simp only [Act.put, List.setIfInBounds_toArray, List.set_cons_zero, List.set_cons_succ]
            refine ext_take (i := 1) (v := .bool false) rfl (by kernel_rfl) (by kernel_rfl) (by kernel_rfl) (fun _ _ _ h => h) (by rfl) ?_ ?_
            · intro W hW; have hW0 := Ext.trans E0d.out hW; clear hW; go_simp; all_goals (first | done | rfl)
            try simp only [Act.put, List.setIfInBounds_toArray, List.set_cons_zero, List.set_cons_succ]
            refine ext_take (i := 2) (v := ?_) rfl (by kernel_rfl) (by kernel_rfl) (by kernel_rfl) (fun _ _ _ h => h) (by rfl) ?_ ?_
            rotate_left
            · intro W hW; have hW0 := Ext.trans E0d.out hW; clear hW; go_simp <;> with_reducible rfl
            try simp only [Act.put, List.setIfInBounds_toArray, List.set_cons_zero, List.set_cons_succ]
            refine ext_take (i := 3) (v := ?_) rfl (by kernel_rfl) (by kernel_rfl) (by kernel_rfl) (fun _ _ _ h => h) (by rfl) ?_ ?_
            rotate_left
            · intro W hW; have hW0 := Ext.trans E0d.out hW; clear hW; go_simp <;> with_reducible rfl
            try simp only [Act.put, List.setIfInBounds_toArray, List.set_cons_zero, List.set_cons_succ]
            refine ext_take (i := 4) (v := ?_) rfl (by kernel_rfl) (by kernel_rfl) (by kernel_rfl) (fun _ _ _ h => h) (by rfl) ?_ ?_
            rotate_left
            · intro W hW; have hW0 := Ext.trans E0d.out hW; clear hW; go_simp <;> with_reducible rfl
            try simp only [Act.put, List.setIfInBounds_toArray, List.set_cons_zero, List.set_cons_succ]
            refine ext_take (i := 5) (v := ?_) rfl (by kernel_rfl) (by kernel_rfl) (by kernel_rfl) (fun _ _ _ h => h) (by rfl) ?_ ?_
            rotate_left
            · intro W hW; have hW0 := Ext.trans E0d.out hW; clear hW; go_simp <;> with_reducible rfl
            try simp only [Act.put, List.setIfInBounds_toArray, List.set_cons_zero, List.set_cons_succ]
            refine ext_take (i := 6) (v := ?_) rfl (by kernel_rfl) (by kernel_rfl) (by kernel_rfl) (fun _ _ _ h => h) (by rfl) ?_ ?_
            rotate_left
            · intro W hW; have hW0 := Ext.trans E0d.out hW; clear hW; go_simp <;> with_reducible rfl
            try simp only [Act.put, List.setIfInBounds_toArray, List.set_cons_zero, List.set_cons_succ]
            refine ext_take (i := 7) (v := ?_) rfl (by kernel_rfl) (by kernel_rfl) (by kernel_rfl) (fun _ _ _ h => h) (by rfl) ?_ ?_
            rotate_left
            · intro W hW; have hW0 := Ext.trans E0d.out hW; clear hW; go_simp <;> with_reducible rfl
            try simp only [Act.put, List.setIfInBounds_toArray, List.set_cons_zero, List.set_cons_succ]
            refine ext_take (i := 8) (v := ?_) rfl (by kernel_rfl) (by kernel_rfl) (by kernel_rfl) (fun _ _ _ h => h) (by rfl) ?_ ?_
            rotate_left
            · intro W hW; have hW0 := Ext.trans E0d.out hW; clear hW; go_simp <;> with_reducible rfl
            try simp only [Act.put, List.setIfInBounds_toArray, List.set_cons_zero, List.set_cons_succ]
            refine ext_take (i := 9) (v := ?_) rfl (by kernel_rfl) (by kernel_rfl) (by kernel_rfl) (fun _ _ _ h => h) (by rfl) ?_ ?_
            rotate_left
            · intro W hW; have hW0 := Ext.trans E0d.out hW; clear hW; go_simp <;> with_reducible rfl
            try simp only [Act.put, List.setIfInBounds_toArray, List.set_cons_zero, List.set_cons_succ]
            refine ext_take (i := 10) (v := ?_) rfl (by kernel_rfl) (by kernel_rfl) (by kernel_rfl) (fun _ _ _ h => h) (by rfl) ?_ ?_
            rotate_left
            · intro W hW; have hW0 := Ext.trans E0d.out hW; clear hW; go_simp <;> with_reducible rfl
            try simp only [Act.put, List.setIfInBounds_toArray, List.set_cons_zero, List.set_cons_succ]
            refine ext_take (i := 11) (v := ?_) rfl (by kernel_rfl) (by kernel_rfl) (by kernel_rfl) (fun _ _ _ h => h) (by rfl) ?_ ?_
            rotate_left
            · intro W hW; have hW0 := Ext.trans E0d.out hW; clear hW; go_simp <;> with_reducible rfl
            try simp only [Act.put, List.setIfInBounds_toArray, List.set_cons_zero, List.set_cons_succ]
            refine ext_take (i := 12) (v := ?_) rfl (by kernel_rfl) (by kernel_rfl) (by kernel_rfl) (fun _ _ _ h => h) (by rfl) ?_ ?_
            rotate_left
            · intro W hW; have hW0 := Ext.trans E0d.out hW; clear hW; go_simp <;> with_reducible rfl
            try simp only [Act.put, List.setIfInBounds_toArray, List.set_cons_zero, List.set_cons_succ]
            refine ext_take (i := 13) (v := ?_) rfl (by kernel_rfl) (by kernel_rfl) (by kernel_rfl) (fun _ _ _ h => h) (by rfl) ?_ ?_
            rotate_left
            · intro W hW; have hW0 := Ext.trans E0d.out hW; clear hW; go_simp <;> with_reducible rfl
            try simp only [Act.put, List.setIfInBounds_toArray, List.set_cons_zero, List.set_cons_succ]
            refine ext_call (i := 14) rfl (by kernel_rfl) (by rfl) (fun K' hK => ?_)
            go_simp
            (go_at_call 39; (with_reducible refine (CT.out _ E0d.out).mono ?_); rintro e w2 ⟨rfl, hx⟩; refine hK _ _ hx ?_; clear hK)
            have Ew2 := Lib.hid (Ext.trans E0d.out hx)
            clear hx
            try simp only [Act.put, List.setIfInBounds_toArray, List.set_cons_zero, List.set_cons_succ]
            refine ext_take (i := 15) (v := ?_) rfl (by kernel_rfl) (by kernel_rfl) (by kernel_rfl) (fun _ _ _ h => h) (by rfl) ?_ ?_
            rotate_left
            · intro W hW; have hW0 := Ext.trans Ew2.out hW; clear hW; go_simp <;> with_reducible rfl
            try simp only [Act.put, List.setIfInBounds_toArray, List.set_cons_zero, List.set_cons_succ]
            refine ext_take (i := 16) (v := ?_) rfl (by kernel_rfl) (by kernel_rfl) (by kernel_rfl) (fun _ _ _ h => h) (by rfl) ?_ ?_
            rotate_left
            · intro W hW; have hW0 := Ext.trans Ew2.out hW; clear hW; go_simp <;> with_reducible rfl
            try simp only [Act.put, List.setIfInBounds_toArray, List.set_cons_zero, List.set_cons_succ]
            refine wpAnyH_done (by kernel_rfl) ?_ _
            go_wp2
            go_roundw
            case rel => exact ⟨j + 1, _, G', by omega, by go_num, HR1.out, HP2.out.stay Ew2.out, Ext.trans X1.out Ew2.out⟩
            case measure => simp [intOf]; omega
          | false =>
            have CT := Lib.hid (CZ.out false hsm)
            have HD0 := Lib.hid (HS1.out (by rw [hsm]; decide))
            clear CZ HGO2 HS1 hsm
            refine ext_begin (by kernel_rfl) ?_
            have E0d := Lib.hid (Ext.drewR E0.out)
            refine ext_take (i := 0) (v := ?_) rfl (by kernel_rfl) (by kernel_rfl) (by kernel_rfl) (fun _ _ _ h => h) (by rfl) ?_ ?_
            rotate_left
            · intro W hW; have hW0 := Ext.trans E0d.out hW; clear hW; go_simp <;> with_reducible rfl
            try simp only [Act.put, List.setIfInBounds_toArray, List.set_cons_zero, List.set_cons_succ]
            refine ext_take (i := 1) (v := .bool false) rfl (by kernel_rfl) (by kernel_rfl) (by kernel_rfl) (fun _ _ _ h => h) (by rfl) ?_ ?_
            · intro W hW; have hW0 := Ext.trans E0d.out hW; clear hW; go_simp; all_goals (first | done | rfl)
            try simp only [Act.put, List.setIfInBounds_toArray, List.set_cons_zero, List.set_cons_succ]
            refine ext_take (i := 2) (v := ?_) rfl (by kernel_rfl) (by kernel_rfl) (by kernel_rfl) (fun _ _ _ h => h) (by rfl) ?_ ?_
            rotate_left
            · intro W hW; have hW0 := Ext.trans E0d.out hW; clear hW; go_simp <;> with_reducible rfl
            try simp only [Act.put, List.setIfInBounds_toArray, List.set_cons_zero, List.set_cons_succ]
            refine ext_take (i := 3) (v := ?_) rfl (by kernel_rfl) (by kernel_rfl) (by kernel_rfl) (fun _ _ _ h => h) (by rfl) ?_ ?_
            rotate_left
            · intro W hW; have hW0 := Ext.trans E0d.out hW; clear hW; go_simp <;> with_reducible rfl
            try simp only [Act.put, List.setIfInBounds_toArray, List.set_cons_zero, List.set_cons_succ]
            refine ext_take (i := 4) (v := ?_) rfl (by kernel_rfl) (by kernel_rfl) (by kernel_rfl) (fun _ _ _ h => h) (by rfl) ?_ ?_
            rotate_left
            · intro W hW; have hW0 := Ext.trans E0d.out hW; clear hW; go_simp <;> with_reducible rfl
            try simp only [Act.put, List.setIfInBounds_toArray, List.set_cons_zero, List.set_cons_succ]
            refine ext_take (i := 5) (v := ?_) rfl (by kernel_rfl) (by kernel_rfl) (by kernel_rfl) (fun _ _ _ h => h) (by rfl) ?_ ?_
            rotate_left
            · intro W hW; have hW0 := Ext.trans E0d.out hW; clear hW; go_simp <;> with_reducible rfl
            try simp only [Act.put, List.setIfInBounds_toArray, List.set_cons_zero, List.set_cons_succ]
            refine ext_take (i := 6) (v := ?_) rfl (by kernel_rfl) (by kernel_rfl) (by kernel_rfl) (fun _ _ _ h => h) (by rfl) ?_ ?_
            rotate_left
            · intro W hW; have hW0 := Ext.trans E0d.out hW; clear hW; go_simp <;> with_reducible rfl
            try simp only [Act.put, List.setIfInBounds_toArray, List.set_cons_zero, List.set_cons_succ]
            refine ext_take (i := 7) (v := ?_) rfl (by kernel_rfl) (by kernel_rfl) (by kernel_rfl) (fun _ _ _ h => h) (by rfl) ?_ ?_
            rotate_left
            · intro W hW; have hW0 := Ext.trans E0d.out hW; clear hW; go_simp <;> with_reducible rfl
            try simp only [Act.put, List.setIfInBounds_toArray, List.set_cons_zero, List.set_cons_succ]
            refine ext_take (i := 8) (v := ?_) rfl (by kernel_rfl) (by kernel_rfl) (by kernel_rfl) (fun _ _ _ h => h) (by rfl) ?_ ?_
            rotate_left
            · intro W hW; have hW0 := Ext.trans E0d.out hW; clear hW; go_simp <;> with_reducible rfl
            try simp only [Act.put, List.setIfInBounds_toArray, List.set_cons_zero, List.set_cons_succ]
            refine ext_take (i := 9) (v := ?_) rfl (by kernel_rfl) (by kernel_rfl) (by kernel_rfl) (fun _ _ _ h => h) (by rfl) ?_ ?_
            rotate_left
            · intro W hW; have hW0 := Ext.trans E0d.out hW; clear hW; go_simp <;> with_reducible rfl
            try simp only [Act.put, List.setIfInBounds_toArray, List.set_cons_zero, List.set_cons_succ]
            refine ext_take (i := 10) (v := ?_) rfl (by kernel_rfl) (by kernel_rfl) (by kernel_rfl) (fun _ _ _ h => h) (by rfl) ?_ ?_
            rotate_left
            · intro W hW; have hW0 := Ext.trans E0d.out hW; clear hW; go_simp <;> with_reducible rfl
            try simp only [Act.put, List.setIfInBounds_toArray, List.set_cons_zero, List.set_cons_succ]
            refine ext_take (i := 11) (v := ?_) rfl (by kernel_rfl) (by kernel_rfl) (by kernel_rfl) (fun _ _ _ h => h) (by rfl) ?_ ?_
            rotate_left
            · intro W hW; have hW0 := Ext.trans E0d.out hW; clear hW; go_simp <;> with_reducible rfl
            try simp only [Act.put, List.setIfInBounds_toArray, List.set_cons_zero, List.set_cons_succ]
            refine ext_take (i := 12) (v := ?_) rfl (by kernel_rfl) (by kernel_rfl) (by kernel_rfl) (fun _ _ _ h => h) (by rfl) ?_ ?_
            rotate_left
            · intro W hW; have hW0 := Ext.trans E0d.out hW; clear hW; go_simp <;> with_reducible rfl
            try simp only [Act.put, List.setIfInBounds_toArray, List.set_cons_zero, List.set_cons_succ]
            refine ext_take (i := 13) (v := ?_) rfl (by kernel_rfl) (by kernel_rfl) (by kernel_rfl) (fun _ _ _ h => h) (by rfl) ?_ ?_
            rotate_left
            · intro W hW; have hW0 := Ext.trans E0d.out hW; clear hW; go_simp <;> with_reducible rfl
            try simp only [Act.put, List.setIfInBounds_toArray, List.set_cons_zero, List.set_cons_succ]
            refine ext_call (i := 14) rfl (by kernel_rfl) (by rfl) (fun K' hK => ?_)
            go_simp
            (go_at_call 39; (with_reducible refine (CT.out _ E0d.out).mono ?_); rintro e w2 ⟨rfl, hx⟩; refine hK _ _ hx ?_; clear hK)
            have Ew2 := Lib.hid (Ext.trans E0d.out hx)
            clear hx
            try simp only [Act.put, List.setIfInBounds_toArray, List.set_cons_zero, List.set_cons_succ]
            refine ext_take (i := 15) (v := ?_) rfl (by kernel_rfl) (by kernel_rfl) (by kernel_rfl) (fun _ _ _ h => h) (by rfl) ?_ ?_
            rotate_left
            · intro W hW; have hW0 := Ext.trans Ew2.out hW; clear hW; go_simp <;> with_reducible rfl
            try simp only [Act.put, List.setIfInBounds_toArray, List.set_cons_zero, List.set_cons_succ]
            refine ext_take (i := 16) (v := ?_) rfl (by kernel_rfl) (by kernel_rfl) (by kernel_rfl) (fun _ _ _ h => h) (by rfl) ?_ ?_
            rotate_left
            · intro W hW; have hW0 := Ext.trans Ew2.out hW; clear hW; go_simp <;> with_reducible rfl
            try simp only [Act.put, List.setIfInBounds_toArray, List.set_cons_zero, List.set_cons_succ]
            refine wpAnyH_done (by kernel_rfl) ?_ _
            go_wp2
            try go_ret
            exact hD.out _ _ ⟨by first | (rw [HD0.out]; done) | (rw [HD0.out]; rfl), Ext.trans X1.out Ew2.out⟩
        · have HD0 := Lib.hid (HS.out (fun h => hE h.1))
          have E0 := Lib.hid hX1
          clear hP' hF' hG' hX1
          refine ext_begin (by kernel_rfl) ?_
          have E0d := Lib.hid (Ext.drewR E0.out)
          refine ext_take (i := 0) (v := ?_) rfl (by kernel_rfl) (by kernel_rfl) (by kernel_rfl) (fun _ _ _ h => h) (by rfl) ?_ ?_
          rotate_left
          · intro W hW; have hW0 := Ext.trans E0d.out hW; clear hW; go_simp <;> with_reducible rfl
          try simp only [Act.put, List.setIfInBounds_toArray, List.set_cons_zero, List.set_cons_succ]
          refine ext_take (i := 1) (v := .bool true) rfl (by kernel_rfl) (by kernel_rfl) (by kernel_rfl) (fun _ _ _ h => h) (by rfl) ?_ ?_
          · intro W hW; have hW0 := Ext.trans E0d.out hW; clear hW; go_simp; all_goals (first | done | (simp [hE]; done))
          try simp only [Act.put, List.setIfInBounds_toArray, List.set_cons_zero, List.set_cons_succ]
          refine ext_take (i := 2) (v := ?_) rfl (by kernel_rfl) (by kernel_rfl) (by kernel_rfl) (fun _ _ _ h => h) (by rfl) ?_ ?_
          rotate_left
          · intro W hW; have hW0 := Ext.trans E0d.out hW; clear hW; go_simp <;> with_reducible rfl
          try simp only [Act.put, List.setIfInBounds_toArray, List.set_cons_zero, List.set_cons_succ]
          refine ext_skip (i := 3) rfl (by kernel_rfl) (by kernel_rfl) (by kernel_rfl) (fun _ _ _ h => h) (by rfl) ?_
          try simp only [Act.put, List.setIfInBounds_toArray, List.set_cons_zero, List.set_cons_succ]
          refine ext_skip (i := 4) rfl (by kernel_rfl) (by kernel_rfl) (by kernel_rfl) (fun _ _ _ h => h) (by rfl) ?_
          try simp only [Act.put, List.setIfInBounds_toArray, List.set_cons_zero, List.set_cons_succ]
          refine ext_skip (i := 5) rfl (by kernel_rfl) (by kernel_rfl) (by kernel_rfl) (fun _ _ _ h => h) (by rfl) ?_
          try simp only [Act.put, List.setIfInBounds_toArray, List.set_cons_zero, List.set_cons_succ]
          refine ext_skip (i := 6) rfl (by kernel_rfl) (by kernel_rfl) (by kernel_rfl) (fun _ _ _ h => h) (by rfl) ?_
          try simp only [Act.put, List.setIfInBounds_toArray, List.set_cons_zero, List.set_cons_succ]
          refine ext_skip (i := 7) rfl (by kernel_rfl) (by kernel_rfl) (by kernel_rfl) (fun _ _ _ h => h) (by rfl) ?_
          try simp only [Act.put, List.setIfInBounds_toArray, List.set_cons_zero, List.set_cons_succ]
          refine ext_skip (i := 8) rfl (by kernel_rfl) (by kernel_rfl) (by kernel_rfl) (fun _ _ _ h => h) (by rfl) ?_
          try simp only [Act.put, List.setIfInBounds_toArray, List.set_cons_zero, List.set_cons_succ]
          refine ext_skip (i := 9) rfl (by kernel_rfl) (by kernel_rfl) (by kernel_rfl) (fun _ _ _ h => h) (by rfl) ?_
          try simp only [Act.put, List.setIfInBounds_toArray, List.set_cons_zero, List.set_cons_succ]
          refine ext_skip (i := 10) rfl (by kernel_rfl) (by kernel_rfl) (by kernel_rfl) (fun _ _ _ h => h) (by rfl) ?_
          try simp only [Act.put, List.setIfInBounds_toArray, List.set_cons_zero, List.set_cons_succ]
          refine ext_skip (i := 11) rfl (by kernel_rfl) (by kernel_rfl) (by kernel_rfl) (fun _ _ _ h => h) (by rfl) ?_
          try simp only [Act.put, List.setIfInBounds_toArray, List.set_cons_zero, List.set_cons_succ]
          refine ext_skip (i := 12) rfl (by kernel_rfl) (by kernel_rfl) (by kernel_rfl) (fun _ _ _ h => h) (by rfl) ?_
          try simp only [Act.put, List.setIfInBounds_toArray, List.set_cons_zero, List.set_cons_succ]
          refine ext_skip (i := 13) rfl (by kernel_rfl) (by kernel_rfl) (by kernel_rfl) (fun _ _ _ h => h) (by rfl) ?_
          try simp only [Act.put, List.setIfInBounds_toArray, List.set_cons_zero, List.set_cons_succ]
          refine ext_skip (i := 14) rfl (by kernel_rfl) (by kernel_rfl) (by kernel_rfl) (fun _ _ _ h => h) (by rfl) ?_
          try simp only [Act.put, List.setIfInBounds_toArray, List.set_cons_zero, List.set_cons_succ]
          refine ext_skip (i := 15) rfl (by kernel_rfl) (by kernel_rfl) (by kernel_rfl) (fun _ _ _ h => h) (by rfl) ?_
          try simp only [Act.put, List.setIfInBounds_toArray, List.set_cons_zero, List.set_cons_succ]
          refine ext_take (i := 16) (v := ?_) rfl (by kernel_rfl) (by kernel_rfl) (by kernel_rfl) (fun _ _ _ h => h) (by rfl) ?_ ?_
          rotate_left
          · intro W hW; have hW0 := Ext.trans E0d.out hW; clear hW; go_simp <;> with_reducible rfl
          try simp only [Act.put, List.setIfInBounds_toArray, List.set_cons_zero, List.set_cons_succ]
          refine wpAnyH_done (by kernel_rfl) ?_ _
          go_wp2
          try go_ret
          exact hD.out _ _ ⟨by first | (rw [HD0.out]; done) | (rw [HD0.out]; rfl), E0d.out⟩
    · have h3 : ¬ (j : Int) < (n : Int) := by omega
      have HE : Hid (decide (mayF (L.map At.x)) = true) := by
        show _ = _
        rw [decide_eq_true_eq]
        refine ⟨st, ?_⟩
        have h := HRUN.out
        rwa [List.take_of_length_le (by rw [List.length_map, ← HN.out]; omega)] at h
      go_wp2
      try go_ret
      exact hD.out _ _ ⟨by rw [HE.out], HX.out⟩

end Go.Proofs.Ytnionfddejaalaa
