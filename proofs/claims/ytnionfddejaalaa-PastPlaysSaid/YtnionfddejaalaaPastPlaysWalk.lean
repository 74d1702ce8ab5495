/-
  The walk of the law PastPlays.
-/
import Derived.Test.YtnionfddejaalaaTwoPast
import Derived.Test.YtnionfddejaalaaTold22
import Derived.Test.YtnionfddejaalaaActs22
import Derived.Test.YtnionfddejaalaaOpenOps22
namespace Go.Proofs.Ytnionfddejaalaa
set_option linter.unusedVariables false
set_option linter.unusedSimpArgs false
open Go.RowKit Go.ChangeShapes Go.WideShapes Go.Joins Go.Deep

open Classical in
set_option maxRecDepth 8000 in
set_option maxHeartbeats 32000000 in
theorem walk_pastPlays (A : Option Addr) (l : List Op22) (cap : Nat) (w : World) (hcap : l.length ≤ cap) (hc63 : l.length ≤ 9223372036854775807) (hS : So22 w A l) :
    Calls Try.prog 3 #[.slice A l.length cap] w fun e w' => e = .returned (.bool true) ∧ Below w.heap.size w w' := by
  refine hide_post fun D hD => ?_
  obtain ⟨P1, hP1⟩ : ∃ P, P = w.heap.size := ⟨_, rfl⟩
  have CT : Hid (∀ V, Calls Try.prog 10 #[] V fun e w' => e = .returned (.bool true) ∧ Ext V w') := fun V => told22_any V
  have CN : Hid (Calls Try.prog 8 #[] w fun e w' => e = .returned (.pointer (some ⟨P1, 0, none⟩)) ∧ PAt w' w.heap.size P1 none .init ∧ Ext w w') := by rw [hP1]; exact pastNew_any w.heap.size w (Nat.le_refl _)
  have HP1 := Lib.hid hP1
  have HS := Lib.hid hS
  obtain ⟨n, hn⟩ : ∃ n, n = l.length := ⟨_, rfl⟩
  rw [← hn] at hcap hc63 ⊢
  have HN := Lib.hid hn
  clear hS hn hP1
  go_enter Try.func3, Try.ntmps3
  go_wp2_with (go_at_call 8; (with_reducible refine CN.out.mono ?_); rintro e w1 ⟨rfl, hp, hx⟩; have X1 := Lib.hid hx; have HPA1 := Lib.hid hp; clear hx hp)
  obtain ⟨P2, hP2⟩ : ∃ P, P = w1.heap.size := ⟨_, rfl⟩
  rw [← hP2]
  obtain ⟨wl, hwl⟩ : ∃ wl, wl = w1.alloc (.cells #[.slice none 0 0, .int .i64 0, .int .i64 0, .int .i64 0, .int .i64 0, .int .i64 0, .int .i64 0, .int .i64 0, .int .i64 0, .int .i64 0, .string ⟨#[]⟩, .int .i64 0, .int .i64 0, .int .i64 0, .int .i64 0, .int .i64 0, .string ⟨#[]⟩, .int .i64 0, .int .i64 0, .int .i64 0, .int .i64 0, .int .i64 0, .string ⟨#[]⟩, .int .i64 0, .int .i64 0, .int .i64 0, .int .i64 0, .int .i64 0, .string ⟨#[]⟩] 32) := ⟨_, rfl⟩
  have T00 : Hid (Two w wl w.heap.size P1 P2 none none .init .init) := by
    show Two _ _ _ _ _ _ _ _ _
    rw [hwl, hP2]
    exact ⟨HPA1.out.stay (Ext.alloc _ _), RAt.new w1 _ X1.out.size, (fun _ h => by cases h), Nat.le_refl _, Ext.trans X1.out (Ext.alloc _ _)⟩
  rw [← hwl]
  clear hwl hP2
  go_loopw [5] (fun i wr => ∃ (j : Nat) (st : Ps) (G1 G2 : Option Nat), j ≤ n ∧ j ≤ 80 ∧ i = .int .i64 j ∧ Hid (Two w wr w.heap.size P1 P2 G1 G2 st st) ∧ Hid (Sm st j)) (fun i _ => n - (intOf i).toNat)
  case atStart => exact ⟨0, .init, none, none, by omega, by omega, rfl, T00.out, Sm.init⟩
  case round =>
    obtain ⟨j, st, G1, G2, hj, hj80, rfl, HT, HSM⟩ := hrel
    by_cases hlt : j < n ∧ j < 80
    · obtain ⟨hlt, hl80⟩ := hlt
      obtain ⟨x, hx⟩ : ∃ x, l[j]? = some x := ⟨_, List.getElem?_eq_getElem (by rw [← HN.out]; exact hlt)⟩
      obtain ⟨b, o, rfl, hc, hsl, hok⟩ := HS.out j x hx
      have hqd : x.qd.size ≤ maxLen := hok.2.2.2.2.2.2.2.2.1
      obtain ⟨kd, cl, sq, at9, qc, qs, qk, qi, qm, qd, rc, rv, rd, rA, rcap, rl⟩ := x
      simp only at hsl hqd
      obtain ⟨rn, hrn⟩ : ∃ r, r = rl.length := ⟨_, rfl⟩
      have HRN := Lib.hid hrn
      have c0 : w.cell? ⟨b, o + j * 14 + 0, none⟩ = some (.int .i64 kd) := hc 0 (by decide)
      have c1 : w.cell? ⟨b, o + j * 14 + 1, none⟩ = some (.int .i64 cl) := hc 1 (by decide)
      have c2 : w.cell? ⟨b, o + j * 14 + 2, none⟩ = some (.int .i64 sq) := hc 2 (by decide)
      have c3 : w.cell? ⟨b, o + j * 14 + 3, none⟩ = some (.int .i64 at9) := hc 3 (by decide)
      have c4 : w.cell? ⟨b, o + j * 14 + 4, none⟩ = some (.int .i64 qc) := hc 4 (by decide)
      have c5 : w.cell? ⟨b, o + j * 14 + 5, none⟩ = some (.int .i64 qs) := hc 5 (by decide)
      have c6 : w.cell? ⟨b, o + j * 14 + 6, none⟩ = some (.int .i64 qk) := hc 6 (by decide)
      have c7 : w.cell? ⟨b, o + j * 14 + 7, none⟩ = some (.int .i64 qi) := hc 7 (by decide)
      have c8 : w.cell? ⟨b, o + j * 14 + 8, none⟩ = some (.int .i64 qm) := hc 8 (by decide)
      have c9 : w.cell? ⟨b, o + j * 14 + 9, none⟩ = some (.string qd) := hc 9 (by decide)
      have c10 : w.cell? ⟨b, o + j * 14 + 10, none⟩ = some (.int .i64 rc) := hc 10 (by decide)
      have c11 : w.cell? ⟨b, o + j * 14 + 11, none⟩ = some (.int .i64 rv) := hc 11 (by decide)
      have c12 : w.cell? ⟨b, o + j * 14 + 12, none⟩ = some (.string rd) := hc 12 (by decide)
      have c13 : w.cell? ⟨b, o + j * 14 + 13, none⟩ = some (.slice rA rl.length rcap) := hc 13 (by decide)
      rw [← hrn] at c13
      have hj1 : (j : Int) < (n : Int) := by omega
      have hj0 : (0 : Int) ≤ (j : Int) := by omega
      have hj8 : (j : Int) < 80 := by omega
      obtain ⟨g, hg⟩ : ∃ g, g = wr.heap.size := ⟨_, rfl⟩
      obtain ⟨w0, hw0⟩ : ∃ w0, w0 = wr.alloc (.cells #[.int .i64 kd, .int .i64 cl, .int .i64 sq, .int .i64 at9, .int .i64 qc, .int .i64 qs, .int .i64 qk, .int .i64 qi, .int .i64 qm, .string qd, .int .i64 rc, .int .i64 rv, .string rd, .slice rA rn rcap] 37) := ⟨_, rfl⟩
      have KR : Hid (Blk w0 g 37 #[.int .i64 kd, .int .i64 cl, .int .i64 sq, .int .i64 at9, .int .i64 qc, .int .i64 qs, .int .i64 qk, .int .i64 qi, .int .i64 qm, .string qd, .int .i64 rc, .int .i64 rv, .string rd, .slice rA rn rcap]) := by show Blk _ _ _ _; rw [hw0, hg]; exact Blk.new _ _ _
      have HT0 : Hid (Two w w0 w.heap.size P1 P2 G1 G2 st st) := by show Two _ _ _ _ _ _ _ _ _; rw [hw0]; exact HT.out.stay (Ext.alloc _ _)
      have CF : Hid (∀ q, decide (qd.size ≤ 100 ∧ rd.size ≤ 200 ∧ rn ≤ 60) = q → Calls Try.prog 9 #[.agg #[.int .i64 kd, .int .i64 cl, .int .i64 sq, .int .i64 at9, .int .i64 qc, .int .i64 qs, .int .i64 qk, .int .i64 qi, .int .i64 qm, .string qd, .int .i64 rc, .int .i64 rv, .string rd, .slice rA rn rcap]] w0 fun e w' => e = .returned (.bool q) ∧ Ext w0 w') := fun q hq => by rw [← hq]; exact few22_any kd cl sq at9 qc qs qk qi qm qd rc rv rd rA rn rcap w0
      have HG := Lib.hid hg
      have HW := Lib.hid hw0
      have KR0 := KR.out
      have d0 := KR0.cell 0
      have d1 := KR0.cell 1
      have d2 := KR0.cell 2
      have d3 := KR0.cell 3
      have d4 := KR0.cell 4
      have d5 := KR0.cell 5
      have d6 := KR0.cell 6
      have d7 := KR0.cell 7
      have d8 := KR0.cell 8
      have d9 := KR0.cell 9
      have d10 := KR0.cell 10
      have d11 := KR0.cell 11
      have d12 := KR0.cell 12
      have d13 := KR0.cell 13
      simp at d0 d1 d2 d3 d4 d5 d6 d7 d8 d9 d10 d11 d12 d13
      replace c0 := cell_stay HT.out.ext c0
      replace c1 := cell_stay HT.out.ext c1
      replace c2 := cell_stay HT.out.ext c2
      replace c3 := cell_stay HT.out.ext c3
      replace c4 := cell_stay HT.out.ext c4
      replace c5 := cell_stay HT.out.ext c5
      replace c6 := cell_stay HT.out.ext c6
      replace c7 := cell_stay HT.out.ext c7
      replace c8 := cell_stay HT.out.ext c8
      replace c9 := cell_stay HT.out.ext c9
      replace c10 := cell_stay HT.out.ext c10
      replace c11 := cell_stay HT.out.ext c11
      replace c12 := cell_stay HT.out.ext c12
      replace c13 := cell_stay HT.out.ext c13
      simp only [Nat.add_zero] at c0
      clear hc hx hok hrn hg hw0 KR0
      cases hq : decide (qd.size ≤ 100 ∧ rd.size ≤ 200 ∧ rn ≤ 60) with
      | false =>
        have CF := Lib.hid (CF.out false hq)
        clear hq
        go_wp2_with (first
          | (go_at_call 9; rw [← HW.out]; (with_reducible refine CF.out.mono ?_); rintro e wf ⟨rfl, hx⟩; have XF := Lib.hid (Ext.trans HT0.out.ext hx); clear hx)
          | (go_at_call 10; (with_reducible refine (CT.out _).mono ?_); rintro e wt ⟨rfl, hx⟩; have XT := Lib.hid (Ext.trans XF.out hx); clear hx))
        try go_ret
        exact hD.out _ _ ⟨rfl, XT.out⟩
      | true =>
        have CF := Lib.hid (CF.out true hq)
        have hsm : qd.size ≤ 100 ∧ rd.size ≤ 200 ∧ rn ≤ 60 := of_decide_eq_true hq
        have HR60 : Hid (rl.length ≤ 60) := by (show _ ≤ _); rw [← HRN.out]; exact hsm.2.2
        have HST := Lib.hid hsl
        clear hq hsm
        go_upto_region 11 with (go_at_call 9; rw [← HW.out, ← HG.out]; (with_reducible refine CF.out.mono ?_); rintro e wf ⟨rfl, hx⟩; have XF := Lib.hid hx; clear hx)
        have KF := KR.out.stay XF.out
        have TF : Hid (Two w wf w.heap.size P1 P2 G1 G2 st st) := HT0.out.stay XF.out
        have T0 : Hid (Two w wf.drew w.heap.size P1 P2 G1 G2 st st) := TF.out.stay (Ext.drewR (Ext.refl _))
        have E12 : Hid (Frm (sel2 P1 P2 G1 G2) wf wf.drew) := Frm.drew (Frm.refl _ _)
        have HNS : Hid (¬ sel2 P1 P2 G1 G2 g) := TF.out.apart KF (by decide) (by decide) (by decide)
        have HSLF : Hid (Sl i64 wf.drew rA rl) := HST.out.stay (Ext.trans TF.out.ext (Ext.drewR (Ext.refl _)))
        have y0 : ∀ W, Frm (sel2 P1 P2 G1 G2) wf W → W.cell? ⟨g, 0, none⟩ = some (.int .i64 kd) := fun W h => (KF.frm h HNS.out).cell 0
        have y1 : ∀ W, Frm (sel2 P1 P2 G1 G2) wf W → W.cell? ⟨g, 1, none⟩ = some (.int .i64 cl) := fun W h => (KF.frm h HNS.out).cell 1
        have y2 : ∀ W, Frm (sel2 P1 P2 G1 G2) wf W → W.cell? ⟨g, 2, none⟩ = some (.int .i64 sq) := fun W h => (KF.frm h HNS.out).cell 2
        have y3 : ∀ W, Frm (sel2 P1 P2 G1 G2) wf W → W.cell? ⟨g, 3, none⟩ = some (.int .i64 at9) := fun W h => (KF.frm h HNS.out).cell 3
        have y4 : ∀ W, Frm (sel2 P1 P2 G1 G2) wf W → W.cell? ⟨g, 4, none⟩ = some (.int .i64 qc) := fun W h => (KF.frm h HNS.out).cell 4
        have y5 : ∀ W, Frm (sel2 P1 P2 G1 G2) wf W → W.cell? ⟨g, 5, none⟩ = some (.int .i64 qs) := fun W h => (KF.frm h HNS.out).cell 5
        have y6 : ∀ W, Frm (sel2 P1 P2 G1 G2) wf W → W.cell? ⟨g, 6, none⟩ = some (.int .i64 qk) := fun W h => (KF.frm h HNS.out).cell 6
        have y7 : ∀ W, Frm (sel2 P1 P2 G1 G2) wf W → W.cell? ⟨g, 7, none⟩ = some (.int .i64 qi) := fun W h => (KF.frm h HNS.out).cell 7
        have y8 : ∀ W, Frm (sel2 P1 P2 G1 G2) wf W → W.cell? ⟨g, 8, none⟩ = some (.int .i64 qm) := fun W h => (KF.frm h HNS.out).cell 8
        have y9 : ∀ W, Frm (sel2 P1 P2 G1 G2) wf W → W.cell? ⟨g, 9, none⟩ = some (.string qd) := fun W h => (KF.frm h HNS.out).cell 9
        have y10 : ∀ W, Frm (sel2 P1 P2 G1 G2) wf W → W.cell? ⟨g, 10, none⟩ = some (.int .i64 rc) := fun W h => (KF.frm h HNS.out).cell 10
        have y11 : ∀ W, Frm (sel2 P1 P2 G1 G2) wf W → W.cell? ⟨g, 11, none⟩ = some (.int .i64 rv) := fun W h => (KF.frm h HNS.out).cell 11
        have y12 : ∀ W, Frm (sel2 P1 P2 G1 G2) wf W → W.cell? ⟨g, 12, none⟩ = some (.string rd) := fun W h => (KF.frm h HNS.out).cell 12
        have y13 : ∀ W, Frm (sel2 P1 P2 G1 G2) wf W → W.cell? ⟨g, 13, none⟩ = some (.slice rA rn rcap) := fun W h => (KF.frm h HNS.out).cell 13
        have f0 := KF.cell 0
        simp at f0
        clear c0 c1 c2 c3 c4 c5 c6 c7 c8 c9 c10 c11 c12 c13 d0 d1 d2 d3 d4 d5 d6 d7 d8 d9 d10 d11 d12 d13 KF hsl CF
        by_cases hk0 : kd = 0
        · subst hk0
          have CA : Hid (Calls Try.prog 11 #[.pointer (some ⟨P1, 0, none⟩), .agg #[.int .i64 qc, .int .i64 qs, .int .i64 qk, .int .i64 qi, .int .i64 qm, .string qd]] wf.drew fun e w' => e = .returned (.int .i64 (askE st ⟨qc, qs, qk, qi, qm, qd⟩)) ∧ POut wf.drew w' w.heap.size P1 G1 (askN st ⟨qc, qs, qk, qi, qm, qd⟩)) := by
            have h7 := ask_any w.heap.size P1 G1 st qc qs qk qi qm qd wf.drew T0.out.p HSM.out.ok hqd (Nat.le_trans HSM.out.len (by omega))
            exact h7
          have CR : Hid (∀ G1' V, Two w V w.heap.size P1 P2 G1' G2 (askN st ⟨qc, qs, qk, qi, qm, qd⟩) st → Calls Try.prog 12 #[.pointer (some ⟨P2, 0, none⟩), .agg #[.int .i64 qc, .int .i64 qs, .int .i64 qk, .int .i64 qi, .int .i64 qm, .string qd]] V fun e w' => e = .returned (.int .i64 (askE st ⟨qc, qs, qk, qi, qm, qd⟩)) ∧ ROut V w' w.heap.size P2 G2 (askN st ⟨qc, qs, qk, qi, qm, qd⟩)) := fun G1' V h => by
            have h7 := rask_any w.heap.size P2 G2 st qc qs qk qi qm qd V h.r HSM.out.ok hqd (Nat.le_trans HSM.out.len (by omega))
            exact h7
          have HSM' : Hid (Sm (askN st ⟨qc, qs, qk, qi, qm, qd⟩) (j + 1)) := HSM.out.ask _
          generalize askE st ⟨qc, qs, qk, qi, qm, qd⟩ = E at *
          generalize askN st ⟨qc, qs, qk, qi, qm, qd⟩ = st1 at *
          go_wp2
          refine rz_begin (sel2 P1 P2 G1 G2) [] (by kernel_rfl) ?_
          refine rz_take [3, 7, 8] (i := 0) (v := ?_) rfl (by kernel_rfl) (by kernel_rfl) (by kernel_rfl) (by kernel_rfl) (by kernel_rfl) (by kernel_rfl) (fun _ _ _ h => h) (by rfl) ?_ ?_
          rotate_left
          · intro W hW; have hW0 := Frm.tr E12.out hW; clear hW; go_simp <;> with_reducible rfl
          try simp only [Act.put, List.setIfInBounds_toArray, List.set_cons_zero, List.set_cons_succ]
          refine rz_take [2, 3, 7, 8] (i := 1) (v := ?_) rfl (by kernel_rfl) (by kernel_rfl) (by kernel_rfl) (by kernel_rfl) (by kernel_rfl) (by kernel_rfl) (fun _ _ _ h => h) (by rfl) ?_ ?_
          rotate_left
          · intro W hW; have hW0 := Frm.tr E12.out hW; clear hW; go_simp <;> with_reducible rfl
          try simp only [Act.put, List.setIfInBounds_toArray, List.set_cons_zero, List.set_cons_succ]
          refine rz_take [3, 7, 8] (i := 2) (v := ?_) rfl (by kernel_rfl) (by kernel_rfl) (by kernel_rfl) (by kernel_rfl) (by kernel_rfl) (by kernel_rfl) (fun _ _ _ h => h) (by rfl) ?_ ?_
          rotate_left
          · intro W hW; have hW0 := Frm.tr E12.out hW; clear hW; go_simp <;> with_reducible rfl
          try simp only [Act.put, List.setIfInBounds_toArray, List.set_cons_zero, List.set_cons_succ]
          refine rz_take [7, 8] (i := 4) (v := ?_) rfl (by kernel_rfl) (by kernel_rfl) (by kernel_rfl) (by kernel_rfl) (by kernel_rfl) (by kernel_rfl) (fun _ _ _ h => h) (by rfl) ?_ ?_
          rotate_left
          · intro W hW; have hW0 := Frm.tr E12.out hW; clear hW; go_simp <;> with_reducible rfl
          try simp only [Act.put, List.setIfInBounds_toArray, List.set_cons_zero, List.set_cons_succ]
          refine rz_take [6, 7, 8] (i := 5) (v := ?_) rfl (by kernel_rfl) (by kernel_rfl) (by kernel_rfl) (by kernel_rfl) (by kernel_rfl) (by kernel_rfl) (fun _ _ _ h => h) (by rfl) ?_ ?_
          rotate_left
          · intro W hW; have hW0 := Frm.tr E12.out hW; clear hW; go_simp <;> with_reducible rfl
          try simp only [Act.put, List.setIfInBounds_toArray, List.set_cons_zero, List.set_cons_succ]
          refine rz_take [7, 8] (i := 6) (v := ?_) rfl (by kernel_rfl) (by kernel_rfl) (by kernel_rfl) (by kernel_rfl) (by kernel_rfl) (by kernel_rfl) (fun _ _ _ h => h) (by rfl) ?_ ?_
          rotate_left
          · intro W hW; have hW0 := Frm.tr E12.out hW; clear hW; go_simp <;> with_reducible rfl
          try simp only [Act.put, List.setIfInBounds_toArray, List.set_cons_zero, List.set_cons_succ]
          refine rz_call (i := 3) rfl (by kernel_rfl) (by rfl) (fun K hK => ?_)
          go_simp
          (go_at_call 11; (with_reducible refine CA.out.mono ?_); rintro e w1 ⟨rfl, hout⟩; obtain ⟨G1', ht1, hx⟩ := T0.out.pout hout; have T1 := Lib.hid ht1; refine hK _ _ (hx.mono (fun k h => Or.inl h)) ?_; clear hK K)
          have Ew1 := Lib.hid (Frm.tr E12.out (hx.mono (s' := sel2 P1 P2 G1 G2) (fun k h => Or.inl h)))
          clear hx hout ht1
          try simp only [Act.put, List.setIfInBounds_toArray, List.set_cons_zero, List.set_cons_succ]
          refine rz_call (i := 7) rfl (by kernel_rfl) (by rfl) (fun K hK => ?_)
          go_simp
          (go_at_call 12; (with_reducible refine (CR.out _ _ T1.out).mono ?_); rintro e w2 ⟨rfl, hout⟩; obtain ⟨G2', ht2, hx⟩ := T1.out.rout hout; have T2 := Lib.hid ht2; refine hK _ _ (hx.mono (fun k h => Or.inr h)) ?_; clear hK K)
          have Ew2 := Lib.hid (Frm.tr Ew1.out (hx.mono (s' := sel2 P1 P2 G1 G2) (fun k h => Or.inr h)))
          clear hx hout ht2
          try simp only [Act.put, List.setIfInBounds_toArray, List.set_cons_zero, List.set_cons_succ]
          refine rz_take [] (i := 8) (v := .bool false) rfl (by kernel_rfl) (by kernel_rfl) (by kernel_rfl) (by kernel_rfl) (by kernel_rfl) (by kernel_rfl) (fun _ _ _ h => h) (by rfl) ?_ ?_
          · intro W hW; have hW0 := Frm.tr Ew2.out hW; clear hW; go_simp; all_goals (first | done | rfl | simp)
          try simp only [Act.put, List.setIfInBounds_toArray, List.set_cons_zero, List.set_cons_succ]
          refine rz_done (by kernel_rfl) ?_ _
          clear y0 y1 y2 y3 y4 y5 y6 y7 y8 y9 y10 y11 y12 y13 CA CR T0 T1
          obtain ⟨pl, hpl⟩ : ∃ pl, pl = pendL st1.wait 4 := ⟨_, rfl⟩
          obtain ⟨np, hnp⟩ : ∃ np, np = pl.length := ⟨_, rfl⟩
          have CP : Hid (∀ V, Ext w2 V → Calls Try.prog 16 #[.pointer (some ⟨P1, 0, none⟩)] V fun e w' => ∃ A c, e = .returned (.slice A np c) ∧ np ≤ c ∧ Rqs w' A pl ∧ Ext V w') := fun V h => by rw [hnp, hpl]; exact (T2.out.stay h).pend
          have CQ : Hid (∀ V, Ext w2 V → Calls Try.prog 17 #[.pointer (some ⟨P2, 0, none⟩)] V fun e w' => ∃ A c, e = .returned (.slice A np c) ∧ np ≤ c ∧ Rqs w' A pl ∧ Ext V w') := fun V h => by rw [hnp, hpl]; exact (T2.out.stay h).rpend HSM'.out.ok
          have CE : Hid (∀ A B c1 c2 V, Rqs V A pl → Rqs V B pl → Calls Try.prog 15 #[.slice A np c1, .slice B np c2] V fun e w' => e = .returned (.bool true) ∧ Ext V w') := fun A B c1 c2 V h1 h2 => by
            have h3 : pl.length ≤ 1000000 := by rw [hpl]; have := pendL_len st1.wait 4; omega
            rw [hnp]
            exact reqs_eq A B c1 c2 pl V h3 h1 h2
          clear hpl hnp
          go_wp2_with (first
            | (go_at_call 16; (with_reducible refine (CP.out _ (Ext.refl _)).mono ?_); rintro e w3 ⟨A3, c3, rfl, hc3, hq3, hx⟩; have X3 := Lib.hid hx; have Q3 := Lib.hid hq3; clear hx hq3)
            | (go_at_call 17; (with_reducible refine (CQ.out _ X3.out).mono ?_); rintro e w4 ⟨A4, c4, rfl, hc4, hq4, hx⟩; have X4 := Lib.hid (Ext.trans X3.out hx); have Q4 := Lib.hid hq4; have Q3' := Lib.hid (Q3.out.stay hx); clear hx hq4)
            | (go_at_call 15; (with_reducible refine (CE.out _ _ _ _ _ Q3'.out Q4.out).mono ?_); rintro e w5 ⟨rfl, hx⟩; have X5 := Lib.hid (Ext.trans X4.out hx); clear hx))
          go_roundw
          case rel => exact ⟨j + 1, _, _, _, by omega, by omega, by go_num, T2.out.stay X5.out, HSM'⟩
          case measure => simp [intOf]; omega
        · have hk1 : (kd == 0) = false := by simp [hk0]
          have CA : Hid (Calls Try.prog 13 #[.pointer (some ⟨P1, 0, none⟩), .int .i64 cl, .int .i64 sq, .agg #[.int .i64 rc, .int .i64 rv, .string rd, .slice rA rn rcap], .int .i64 at9] wf.drew fun e w' => e = .returned (.int .i64 (ansE st cl sq at9)) ∧ POut wf.drew w' w.heap.size P1 G1 (ansN st cl sq ⟨rc, rv, rd, rl⟩ at9)) := by
            have h7 := ans_any w.heap.size P1 G1 st sq rc rv rd rA rcap rl at9 cl wf.drew T0.out.p HSM.out.ok (Nat.le_trans HSM.out.len (by omega)) (Nat.le_trans HR60.out (by decide)) HSLF.out; rw [← HRN.out] at h7
            exact h7
          have CR : Hid (∀ G1' V, Two w V w.heap.size P1 P2 G1' G2 (ansN st cl sq ⟨rc, rv, rd, rl⟩ at9) st → Calls Try.prog 14 #[.pointer (some ⟨P2, 0, none⟩), .int .i64 cl, .int .i64 sq, .agg #[.int .i64 rc, .int .i64 rv, .string rd, .slice rA rn rcap], .int .i64 at9] V fun e w' => e = .returned (.int .i64 (ansE st cl sq at9)) ∧ ROut V w' w.heap.size P2 G2 (ansN st cl sq ⟨rc, rv, rd, rl⟩ at9)) := fun G1' V h => by
            have h7 := rans_any w.heap.size P2 G2 st sq rc rv rd rA rcap rl at9 cl V h.r HSM.out.ok (Nat.le_trans HSM.out.len (by omega)) (Nat.le_trans HR60.out (by decide)) (HST.out.stay h.ext); rw [← HRN.out] at h7
            exact h7
          have HSM' : Hid (Sm (ansN st cl sq ⟨rc, rv, rd, rl⟩ at9) (j + 1)) := HSM.out.ans _ _ _ _ HR60.out
          generalize ansE st cl sq at9 = E at *
          generalize ansN st cl sq ⟨rc, rv, rd, rl⟩ at9 = st1 at *
          go_wp2
          refine rz_begin (sel2 P1 P2 G1 G2) [] (by kernel_rfl) ?_
          refine rz_take [9, 19, 20] (i := 0) (v := ?_) rfl (by kernel_rfl) (by kernel_rfl) (by kernel_rfl) (by kernel_rfl) (by kernel_rfl) (by kernel_rfl) (fun _ _ _ h => h) (by rfl) ?_ ?_
          rotate_left
          · intro W hW; have hW0 := Frm.tr E12.out hW; clear hW; go_simp <;> with_reducible rfl
          try simp only [Act.put, List.setIfInBounds_toArray, List.set_cons_zero, List.set_cons_succ]
          refine rz_take [2, 9, 19, 20] (i := 1) (v := ?_) rfl (by kernel_rfl) (by kernel_rfl) (by kernel_rfl) (by kernel_rfl) (by kernel_rfl) (by kernel_rfl) (fun _ _ _ h => h) (by rfl) ?_ ?_
          rotate_left
          · intro W hW; have hW0 := Frm.tr E12.out hW; clear hW; go_simp <;> with_reducible rfl
          try simp only [Act.put, List.setIfInBounds_toArray, List.set_cons_zero, List.set_cons_succ]
          refine rz_take [9, 19, 20] (i := 2) (v := ?_) rfl (by kernel_rfl) (by kernel_rfl) (by kernel_rfl) (by kernel_rfl) (by kernel_rfl) (by kernel_rfl) (fun _ _ _ h => h) (by rfl) ?_ ?_
          rotate_left
          · intro W hW; have hW0 := Frm.tr E12.out hW; clear hW; go_simp <;> with_reducible rfl
          try simp only [Act.put, List.setIfInBounds_toArray, List.set_cons_zero, List.set_cons_succ]
          refine rz_take [4, 9, 19, 20] (i := 3) (v := ?_) rfl (by kernel_rfl) (by kernel_rfl) (by kernel_rfl) (by kernel_rfl) (by kernel_rfl) (by kernel_rfl) (fun _ _ _ h => h) (by rfl) ?_ ?_
          rotate_left
          · intro W hW; have hW0 := Frm.tr E12.out hW; clear hW; go_simp <;> with_reducible rfl
          try simp only [Act.put, List.setIfInBounds_toArray, List.set_cons_zero, List.set_cons_succ]
          refine rz_take [9, 19, 20] (i := 4) (v := ?_) rfl (by kernel_rfl) (by kernel_rfl) (by kernel_rfl) (by kernel_rfl) (by kernel_rfl) (by kernel_rfl) (fun _ _ _ h => h) (by rfl) ?_ ?_
          rotate_left
          · intro W hW; have hW0 := Frm.tr E12.out hW; clear hW; go_simp <;> with_reducible rfl
          try simp only [Act.put, List.setIfInBounds_toArray, List.set_cons_zero, List.set_cons_succ]
          refine rz_take [6, 9, 19, 20] (i := 5) (v := ?_) rfl (by kernel_rfl) (by kernel_rfl) (by kernel_rfl) (by kernel_rfl) (by kernel_rfl) (by kernel_rfl) (fun _ _ _ h => h) (by rfl) ?_ ?_
          rotate_left
          · intro W hW; have hW0 := Frm.tr E12.out hW; clear hW; go_simp <;> with_reducible rfl
          try simp only [Act.put, List.setIfInBounds_toArray, List.set_cons_zero, List.set_cons_succ]
          refine rz_take [9, 19, 20] (i := 6) (v := ?_) rfl (by kernel_rfl) (by kernel_rfl) (by kernel_rfl) (by kernel_rfl) (by kernel_rfl) (by kernel_rfl) (fun _ _ _ h => h) (by rfl) ?_ ?_
          rotate_left
          · intro W hW; have hW0 := Frm.tr E12.out hW; clear hW; go_simp <;> with_reducible rfl
          try simp only [Act.put, List.setIfInBounds_toArray, List.set_cons_zero, List.set_cons_succ]
          refine rz_take [8, 9, 19, 20] (i := 7) (v := ?_) rfl (by kernel_rfl) (by kernel_rfl) (by kernel_rfl) (by kernel_rfl) (by kernel_rfl) (by kernel_rfl) (fun _ _ _ h => h) (by rfl) ?_ ?_
          rotate_left
          · intro W hW; have hW0 := Frm.tr E12.out hW; clear hW; go_simp <;> with_reducible rfl
          try simp only [Act.put, List.setIfInBounds_toArray, List.set_cons_zero, List.set_cons_succ]
          refine rz_take [9, 19, 20] (i := 8) (v := ?_) rfl (by kernel_rfl) (by kernel_rfl) (by kernel_rfl) (by kernel_rfl) (by kernel_rfl) (by kernel_rfl) (fun _ _ _ h => h) (by rfl) ?_ ?_
          rotate_left
          · intro W hW; have hW0 := Frm.tr E12.out hW; clear hW; go_simp <;> with_reducible rfl
          try simp only [Act.put, List.setIfInBounds_toArray, List.set_cons_zero, List.set_cons_succ]
          refine rz_take [19, 20] (i := 10) (v := ?_) rfl (by kernel_rfl) (by kernel_rfl) (by kernel_rfl) (by kernel_rfl) (by kernel_rfl) (by kernel_rfl) (fun _ _ _ h => h) (by rfl) ?_ ?_
          rotate_left
          · intro W hW; have hW0 := Frm.tr E12.out hW; clear hW; go_simp <;> with_reducible rfl
          try simp only [Act.put, List.setIfInBounds_toArray, List.set_cons_zero, List.set_cons_succ]
          refine rz_take [12, 19, 20] (i := 11) (v := ?_) rfl (by kernel_rfl) (by kernel_rfl) (by kernel_rfl) (by kernel_rfl) (by kernel_rfl) (by kernel_rfl) (fun _ _ _ h => h) (by rfl) ?_ ?_
          rotate_left
          · intro W hW; have hW0 := Frm.tr E12.out hW; clear hW; go_simp <;> with_reducible rfl
          try simp only [Act.put, List.setIfInBounds_toArray, List.set_cons_zero, List.set_cons_succ]
          refine rz_take [19, 20] (i := 12) (v := ?_) rfl (by kernel_rfl) (by kernel_rfl) (by kernel_rfl) (by kernel_rfl) (by kernel_rfl) (by kernel_rfl) (fun _ _ _ h => h) (by rfl) ?_ ?_
          rotate_left
          · intro W hW; have hW0 := Frm.tr E12.out hW; clear hW; go_simp <;> with_reducible rfl
          try simp only [Act.put, List.setIfInBounds_toArray, List.set_cons_zero, List.set_cons_succ]
          refine rz_take [14, 19, 20] (i := 13) (v := ?_) rfl (by kernel_rfl) (by kernel_rfl) (by kernel_rfl) (by kernel_rfl) (by kernel_rfl) (by kernel_rfl) (fun _ _ _ h => h) (by rfl) ?_ ?_
          rotate_left
          · intro W hW; have hW0 := Frm.tr E12.out hW; clear hW; go_simp <;> with_reducible rfl
          try simp only [Act.put, List.setIfInBounds_toArray, List.set_cons_zero, List.set_cons_succ]
          refine rz_take [19, 20] (i := 14) (v := ?_) rfl (by kernel_rfl) (by kernel_rfl) (by kernel_rfl) (by kernel_rfl) (by kernel_rfl) (by kernel_rfl) (fun _ _ _ h => h) (by rfl) ?_ ?_
          rotate_left
          · intro W hW; have hW0 := Frm.tr E12.out hW; clear hW; go_simp <;> with_reducible rfl
          try simp only [Act.put, List.setIfInBounds_toArray, List.set_cons_zero, List.set_cons_succ]
          refine rz_take [16, 19, 20] (i := 15) (v := ?_) rfl (by kernel_rfl) (by kernel_rfl) (by kernel_rfl) (by kernel_rfl) (by kernel_rfl) (by kernel_rfl) (fun _ _ _ h => h) (by rfl) ?_ ?_
          rotate_left
          · intro W hW; have hW0 := Frm.tr E12.out hW; clear hW; go_simp <;> with_reducible rfl
          try simp only [Act.put, List.setIfInBounds_toArray, List.set_cons_zero, List.set_cons_succ]
          refine rz_take [19, 20] (i := 16) (v := ?_) rfl (by kernel_rfl) (by kernel_rfl) (by kernel_rfl) (by kernel_rfl) (by kernel_rfl) (by kernel_rfl) (fun _ _ _ h => h) (by rfl) ?_ ?_
          rotate_left
          · intro W hW; have hW0 := Frm.tr E12.out hW; clear hW; go_simp <;> with_reducible rfl
          try simp only [Act.put, List.setIfInBounds_toArray, List.set_cons_zero, List.set_cons_succ]
          refine rz_take [18, 19, 20] (i := 17) (v := ?_) rfl (by kernel_rfl) (by kernel_rfl) (by kernel_rfl) (by kernel_rfl) (by kernel_rfl) (by kernel_rfl) (fun _ _ _ h => h) (by rfl) ?_ ?_
          rotate_left
          · intro W hW; have hW0 := Frm.tr E12.out hW; clear hW; go_simp <;> with_reducible rfl
          try simp only [Act.put, List.setIfInBounds_toArray, List.set_cons_zero, List.set_cons_succ]
          refine rz_take [19, 20] (i := 18) (v := ?_) rfl (by kernel_rfl) (by kernel_rfl) (by kernel_rfl) (by kernel_rfl) (by kernel_rfl) (by kernel_rfl) (fun _ _ _ h => h) (by rfl) ?_ ?_
          rotate_left
          · intro W hW; have hW0 := Frm.tr E12.out hW; clear hW; go_simp <;> with_reducible rfl
          try simp only [Act.put, List.setIfInBounds_toArray, List.set_cons_zero, List.set_cons_succ]
          refine rz_call (i := 9) rfl (by kernel_rfl) (by rfl) (fun K hK => ?_)
          go_simp
          (go_at_call 13; (with_reducible refine CA.out.mono ?_); rintro e w1 ⟨rfl, hout⟩; obtain ⟨G1', ht1, hx⟩ := T0.out.pout hout; have T1 := Lib.hid ht1; refine hK _ _ (hx.mono (fun k h => Or.inl h)) ?_; clear hK K)
          have Ew1 := Lib.hid (Frm.tr E12.out (hx.mono (s' := sel2 P1 P2 G1 G2) (fun k h => Or.inl h)))
          clear hx hout ht1
          try simp only [Act.put, List.setIfInBounds_toArray, List.set_cons_zero, List.set_cons_succ]
          refine rz_call (i := 19) rfl (by kernel_rfl) (by rfl) (fun K hK => ?_)
          go_simp
          (go_at_call 14; (with_reducible refine (CR.out _ _ T1.out).mono ?_); rintro e w2 ⟨rfl, hout⟩; obtain ⟨G2', ht2, hx⟩ := T1.out.rout hout; have T2 := Lib.hid ht2; refine hK _ _ (hx.mono (fun k h => Or.inr h)) ?_; clear hK K)
          have Ew2 := Lib.hid (Frm.tr Ew1.out (hx.mono (s' := sel2 P1 P2 G1 G2) (fun k h => Or.inr h)))
          clear hx hout ht2
          try simp only [Act.put, List.setIfInBounds_toArray, List.set_cons_zero, List.set_cons_succ]
          refine rz_take [] (i := 20) (v := .bool false) rfl (by kernel_rfl) (by kernel_rfl) (by kernel_rfl) (by kernel_rfl) (by kernel_rfl) (by kernel_rfl) (fun _ _ _ h => h) (by rfl) ?_ ?_
          · intro W hW; have hW0 := Frm.tr Ew2.out hW; clear hW; go_simp; all_goals (first | done | rfl | simp)
          try simp only [Act.put, List.setIfInBounds_toArray, List.set_cons_zero, List.set_cons_succ]
          refine rz_done (by kernel_rfl) ?_ _
          clear y0 y1 y2 y3 y4 y5 y6 y7 y8 y9 y10 y11 y12 y13 CA CR T0 T1
          obtain ⟨pl, hpl⟩ : ∃ pl, pl = pendL st1.wait 4 := ⟨_, rfl⟩
          obtain ⟨np, hnp⟩ : ∃ np, np = pl.length := ⟨_, rfl⟩
          have CP : Hid (∀ V, Ext w2 V → Calls Try.prog 16 #[.pointer (some ⟨P1, 0, none⟩)] V fun e w' => ∃ A c, e = .returned (.slice A np c) ∧ np ≤ c ∧ Rqs w' A pl ∧ Ext V w') := fun V h => by rw [hnp, hpl]; exact (T2.out.stay h).pend
          have CQ : Hid (∀ V, Ext w2 V → Calls Try.prog 17 #[.pointer (some ⟨P2, 0, none⟩)] V fun e w' => ∃ A c, e = .returned (.slice A np c) ∧ np ≤ c ∧ Rqs w' A pl ∧ Ext V w') := fun V h => by rw [hnp, hpl]; exact (T2.out.stay h).rpend HSM'.out.ok
          have CE : Hid (∀ A B c1 c2 V, Rqs V A pl → Rqs V B pl → Calls Try.prog 15 #[.slice A np c1, .slice B np c2] V fun e w' => e = .returned (.bool true) ∧ Ext V w') := fun A B c1 c2 V h1 h2 => by
            have h3 : pl.length ≤ 1000000 := by rw [hpl]; have := pendL_len st1.wait 4; omega
            rw [hnp]
            exact reqs_eq A B c1 c2 pl V h3 h1 h2
          clear hpl hnp
          go_wp2_with (first
            | (go_at_call 16; (with_reducible refine (CP.out _ (Ext.refl _)).mono ?_); rintro e w3 ⟨A3, c3, rfl, hc3, hq3, hx⟩; have X3 := Lib.hid hx; have Q3 := Lib.hid hq3; clear hx hq3)
            | (go_at_call 17; (with_reducible refine (CQ.out _ X3.out).mono ?_); rintro e w4 ⟨A4, c4, rfl, hc4, hq4, hx⟩; have X4 := Lib.hid (Ext.trans X3.out hx); have Q4 := Lib.hid hq4; have Q3' := Lib.hid (Q3.out.stay hx); clear hx hq4)
            | (go_at_call 15; (with_reducible refine (CE.out _ _ _ _ _ Q3'.out Q4.out).mono ?_); rintro e w5 ⟨rfl, hx⟩; have X5 := Lib.hid (Ext.trans X4.out hx); clear hx))
          go_roundw
          case rel => exact ⟨j + 1, _, _, _, by omega, by omega, by go_num, T2.out.stay X5.out, HSM'⟩
          case measure => simp [intOf]; omega
    · have hend : ¬ ((j : Int) < (n : Int)) ∨ ((j : Int) < (n : Int)) ∧ ¬ (j : Int) < 80 := by omega
      have CACT : Hid (∀ V, Ext wr V → Calls Try.prog 19 #[.pointer (some ⟨P1, 0, none⟩)] V fun e w' => ∃ A c L, e = .returned (.slice A (List.length L) c) ∧ L.map At.x = st.acts ∧ L.length ≤ c ∧ Acs w' A L ∧ Ext V w') := fun V h => acts_any w.heap.size P1 G1 st V (HT.out.stay h).p (Nat.le_trans HSM.out.len (by omega)) (fun a ha => Nat.le_trans (HSM.out.sm a ha) (by decide))
      have hsz : st.acts.length ≤ 1000000 := Nat.le_trans HSM.out.len (by omega)
      have hlenL : ∀ L : List At, L.map At.x = st.acts → L.length ≤ 1000000 := fun L h => by rw [← List.length_map (f := At.x), h]; exact hsz
      have hmem : ∀ L : List At, L.map At.x = st.acts → ∀ t ∈ L, t.x.r.l.length ≤ 60 := fun L h t ht => HSM.out.sm t.x (by rw [← h]; exact List.mem_map_of_mem ht)
      obtain ⟨_, v, l0, l1, l2, l3, o0, o1, o2, o3, L2, kR, _, _, hown, _, hL2, hin⟩ := HT.out.r
      obtain ⟨_, A2, c2, rfl, hc2, hacs2⟩ := ownA_view hown (fun t ht => (hin t ht).sl)
      have kv := kR.cell 0
      simp at kv
      obtain ⟨n2, hn2⟩ : ∃ n2, n2 = L2.length := ⟨_, rfl⟩
      rw [← hn2] at kv
      have y0 : ∀ W, Ext wr W → W.cell? _ = _ := fun W h => cell_stay h kv
      have CE : Hid (∀ A L c V, Acs V A L → L.map At.x = st.acts → Ext wr V → Calls Try.prog 18 #[.slice A (List.length L) c, .slice A2 n2 c2] V fun e w' => e = .returned (.bool true) ∧ Ext V w') := fun A L c V ha hL hV => by
        rw [hn2]
        exact acts_eq A A2 c c2 L L2 V (hlenL L hL) (fun t ht => Nat.le_trans (hmem L hL t ht) (by decide)) (hL.trans hL2.symm) ha (hacs2.stay hV)
      have CM : Hid (∀ A L c V, Acs V A L → L.map At.x = st.acts → Calls Try.prog 20 #[.slice A (List.length L) c] V fun e w' => e = .returned (.bool true) ∧ Ext V w') := fun A L c V ha hL => by
        have h7 := may_any A c L V (hlenL L hL) (fun t ht => Nat.le_trans (hmem L hL t ht) (by decide)) (fun t ht => HSM.out.qd t.x (by rw [← hL]; exact List.mem_map_of_mem ht)) ha
        rw [decide_eq_true (show mayF (L.map At.x) from ⟨st, by rw [hL]; exact HSM.out.run⟩)] at h7
        exact h7
      have HX := Lib.hid (Ext.refl wr)
      have HXT : Hid (Ext wr wr) := Ext.refl wr
      clear kv kR hown hL2 hin hacs2 hn2 hlenL hmem hsz
      rcases hend with h3 | ⟨h3, h4⟩
      · go_wp2
        refine ext_begin (by kernel_rfl) ?_
        have HXTd := Lib.hid (Ext.drewR HXT.out)
        refine ext_call (i := 0) rfl (by kernel_rfl) (by rfl) (fun K' hK => ?_)
        go_simp
        (go_at_call 10; (with_reducible refine (CT.out _).mono ?_); rintro e w1 ⟨rfl, hx⟩; refine hK _ _ hx ?_; clear hK)
        have Ew1 := Lib.hid (Ext.trans HXTd.out hx)
        clear hx
        try simp only [Act.put, List.setIfInBounds_toArray, List.set_cons_zero, List.set_cons_succ]
        refine ext_take (i := 1) (v := ?_) rfl (by kernel_rfl) (by kernel_rfl) (by kernel_rfl) (fun _ _ _ h => h) (by rfl) ?_ ?_
        rotate_left
        · intro W hW; have hW0 := Ext.trans Ew1.out hW; clear hW; go_simp <;> with_reducible rfl
        try simp only [Act.put, List.setIfInBounds_toArray, List.set_cons_zero, List.set_cons_succ]
        refine ext_take (i := 2) (v := ?_) rfl (by kernel_rfl) (by kernel_rfl) (by kernel_rfl) (fun _ _ _ h => h) (by rfl) ?_ ?_
        rotate_left
        · intro W hW; have hW0 := Ext.trans Ew1.out hW; clear hW; go_simp <;> with_reducible rfl
        try simp only [Act.put, List.setIfInBounds_toArray, List.set_cons_zero, List.set_cons_succ]
        refine ext_take (i := 4) (v := ?_) rfl (by kernel_rfl) (by kernel_rfl) (by kernel_rfl) (fun _ _ _ h => h) (by rfl) ?_ ?_
        rotate_left
        · intro W hW; have hW0 := Ext.trans Ew1.out hW; clear hW; go_simp <;> with_reducible rfl
        try simp only [Act.put, List.setIfInBounds_toArray, List.set_cons_zero, List.set_cons_succ]
        refine ext_take (i := 5) (v := ?_) rfl (by kernel_rfl) (by kernel_rfl) (by kernel_rfl) (fun _ _ _ h => h) (by rfl) ?_ ?_
        rotate_left
        · intro W hW; have hW0 := Ext.trans Ew1.out hW; clear hW; go_simp <;> with_reducible rfl
        try simp only [Act.put, List.setIfInBounds_toArray, List.set_cons_zero, List.set_cons_succ]
        refine ext_take (i := 6) (v := ?_) rfl (by kernel_rfl) (by kernel_rfl) (by kernel_rfl) (fun _ _ _ h => h) (by rfl) ?_ ?_
        rotate_left
        · intro W hW; have hW0 := Ext.trans Ew1.out hW; clear hW; go_simp <;> with_reducible rfl
        try simp only [Act.put, List.setIfInBounds_toArray, List.set_cons_zero, List.set_cons_succ]
        refine ext_take (i := 7) (v := ?_) rfl (by kernel_rfl) (by kernel_rfl) (by kernel_rfl) (fun _ _ _ h => h) (by rfl) ?_ ?_
        rotate_left
        · intro W hW; have hW0 := Ext.trans Ew1.out hW; clear hW; go_simp <;> with_reducible rfl
        try simp only [Act.put, List.setIfInBounds_toArray, List.set_cons_zero, List.set_cons_succ]
        refine ext_call (i := 3) rfl (by kernel_rfl) (by rfl) (fun K' hK => ?_)
        go_simp
        (go_at_call 19; (with_reducible refine (CACT.out _ Ew1.out).mono ?_); rintro e w2 ⟨A3, c3, L3, rfl, hL3, hc3, ha3, hx⟩; refine hK _ _ hx ?_; clear hK)
        have Ew2 := Lib.hid (Ext.trans Ew1.out hx)
        have HL3 := Lib.hid hL3; have HA3 := Lib.hid ha3; clear hL3 ha3
        clear hx
        try simp only [Act.put, List.setIfInBounds_toArray, List.set_cons_zero, List.set_cons_succ]
        refine ext_call (i := 8) rfl (by kernel_rfl) (by rfl) (fun K' hK => ?_)
        go_simp
        (go_at_call 18; (with_reducible refine (CE.out _ _ _ _ HA3.out HL3.out Ew2.out).mono ?_); rintro e w3 ⟨rfl, hx⟩; refine hK _ _ hx ?_; clear hK)
        have Ew3 := Lib.hid (Ext.trans Ew2.out hx)
        clear hx
        try simp only [Act.put, List.setIfInBounds_toArray, List.set_cons_zero, List.set_cons_succ]
        refine ext_take (i := 9) (v := ?_) rfl (by kernel_rfl) (by kernel_rfl) (by kernel_rfl) (fun _ _ _ h => h) (by rfl) ?_ ?_
        rotate_left
        · intro W hW; have hW0 := Ext.trans Ew3.out hW; clear hW; go_simp <;> with_reducible rfl
        try simp only [Act.put, List.setIfInBounds_toArray, List.set_cons_zero, List.set_cons_succ]
        refine ext_take (i := 10) (v := ?_) rfl (by kernel_rfl) (by kernel_rfl) (by kernel_rfl) (fun _ _ _ h => h) (by rfl) ?_ ?_
        rotate_left
        · intro W hW; have hW0 := Ext.trans Ew3.out hW; clear hW; go_simp <;> with_reducible rfl
        try simp only [Act.put, List.setIfInBounds_toArray, List.set_cons_zero, List.set_cons_succ]
        refine ext_take (i := 11) (v := ?_) rfl (by kernel_rfl) (by kernel_rfl) (by kernel_rfl) (fun _ _ _ h => h) (by rfl) ?_ ?_
        rotate_left
        · intro W hW; have hW0 := Ext.trans Ew3.out hW; clear hW; go_simp <;> with_reducible rfl
        try simp only [Act.put, List.setIfInBounds_toArray, List.set_cons_zero, List.set_cons_succ]
        refine ext_call (i := 12) rfl (by kernel_rfl) (by rfl) (fun K' hK => ?_)
        go_simp
        (go_at_call 19; (with_reducible refine (CACT.out _ Ew3.out).mono ?_); rintro e w4 ⟨A4, c4, L4, rfl, hL4, hc4, ha4, hx⟩; refine hK _ _ hx ?_; clear hK)
        have Ew4 := Lib.hid (Ext.trans Ew3.out hx)
        have HL4 := Lib.hid hL4; have HA4 := Lib.hid ha4; clear hL4 ha4
        clear hx
        try simp only [Act.put, List.setIfInBounds_toArray, List.set_cons_zero, List.set_cons_succ]
        refine ext_call (i := 13) rfl (by kernel_rfl) (by rfl) (fun K' hK => ?_)
        go_simp
        (go_at_call 20; (with_reducible refine (CM.out _ _ _ _ HA4.out HL4.out).mono ?_); rintro e w5 ⟨rfl, hx⟩; refine hK _ _ hx ?_; clear hK)
        have Ew5 := Lib.hid (Ext.trans Ew4.out hx)
        clear hx
        try simp only [Act.put, List.setIfInBounds_toArray, List.set_cons_zero, List.set_cons_succ]
        refine ext_take (i := 14) (v := ?_) rfl (by kernel_rfl) (by kernel_rfl) (by kernel_rfl) (fun _ _ _ h => h) (by rfl) ?_ ?_
        rotate_left
        · intro W hW; have hW0 := Ext.trans Ew5.out hW; clear hW; go_simp <;> with_reducible rfl
        try simp only [Act.put, List.setIfInBounds_toArray, List.set_cons_zero, List.set_cons_succ]
        refine ext_take (i := 15) (v := ?_) rfl (by kernel_rfl) (by kernel_rfl) (by kernel_rfl) (fun _ _ _ h => h) (by rfl) ?_ ?_
        rotate_left
        · intro W hW; have hW0 := Ext.trans Ew5.out hW; clear hW; go_simp <;> with_reducible rfl
        try simp only [Act.put, List.setIfInBounds_toArray, List.set_cons_zero, List.set_cons_succ]
        refine wpAnyH_done (by kernel_rfl) ?_ _
        go_wp2
        try go_ret
        exact hD.out _ _ ⟨rfl, Ext.trans HT.out.ext Ew5.out⟩
      · go_wp2
        refine ext_begin (by kernel_rfl) ?_
        have HXTd := Lib.hid (Ext.drewR HXT.out)
        refine ext_call (i := 0) rfl (by kernel_rfl) (by rfl) (fun K' hK => ?_)
        go_simp
        (go_at_call 10; (with_reducible refine (CT.out _).mono ?_); rintro e w1 ⟨rfl, hx⟩; refine hK _ _ hx ?_; clear hK)
        have Ew1 := Lib.hid (Ext.trans HXTd.out hx)
        clear hx
        try simp only [Act.put, List.setIfInBounds_toArray, List.set_cons_zero, List.set_cons_succ]
        refine ext_take (i := 1) (v := ?_) rfl (by kernel_rfl) (by kernel_rfl) (by kernel_rfl) (fun _ _ _ h => h) (by rfl) ?_ ?_
        rotate_left
        · intro W hW; have hW0 := Ext.trans Ew1.out hW; clear hW; go_simp <;> with_reducible rfl
        try simp only [Act.put, List.setIfInBounds_toArray, List.set_cons_zero, List.set_cons_succ]
        refine ext_take (i := 2) (v := ?_) rfl (by kernel_rfl) (by kernel_rfl) (by kernel_rfl) (fun _ _ _ h => h) (by rfl) ?_ ?_
        rotate_left
        · intro W hW; have hW0 := Ext.trans Ew1.out hW; clear hW; go_simp <;> with_reducible rfl
        try simp only [Act.put, List.setIfInBounds_toArray, List.set_cons_zero, List.set_cons_succ]
        refine ext_take (i := 4) (v := ?_) rfl (by kernel_rfl) (by kernel_rfl) (by kernel_rfl) (fun _ _ _ h => h) (by rfl) ?_ ?_
        rotate_left
        · intro W hW; have hW0 := Ext.trans Ew1.out hW; clear hW; go_simp <;> with_reducible rfl
        try simp only [Act.put, List.setIfInBounds_toArray, List.set_cons_zero, List.set_cons_succ]
        refine ext_take (i := 5) (v := ?_) rfl (by kernel_rfl) (by kernel_rfl) (by kernel_rfl) (fun _ _ _ h => h) (by rfl) ?_ ?_
        rotate_left
        · intro W hW; have hW0 := Ext.trans Ew1.out hW; clear hW; go_simp <;> with_reducible rfl
        try simp only [Act.put, List.setIfInBounds_toArray, List.set_cons_zero, List.set_cons_succ]
        refine ext_take (i := 6) (v := ?_) rfl (by kernel_rfl) (by kernel_rfl) (by kernel_rfl) (fun _ _ _ h => h) (by rfl) ?_ ?_
        rotate_left
        · intro W hW; have hW0 := Ext.trans Ew1.out hW; clear hW; go_simp <;> with_reducible rfl
        try simp only [Act.put, List.setIfInBounds_toArray, List.set_cons_zero, List.set_cons_succ]
        refine ext_take (i := 7) (v := ?_) rfl (by kernel_rfl) (by kernel_rfl) (by kernel_rfl) (fun _ _ _ h => h) (by rfl) ?_ ?_
        rotate_left
        · intro W hW; have hW0 := Ext.trans Ew1.out hW; clear hW; go_simp <;> with_reducible rfl
        try simp only [Act.put, List.setIfInBounds_toArray, List.set_cons_zero, List.set_cons_succ]
        refine ext_call (i := 3) rfl (by kernel_rfl) (by rfl) (fun K' hK => ?_)
        go_simp
        (go_at_call 19; (with_reducible refine (CACT.out _ Ew1.out).mono ?_); rintro e w2 ⟨A3, c3, L3, rfl, hL3, hc3, ha3, hx⟩; refine hK _ _ hx ?_; clear hK)
        have Ew2 := Lib.hid (Ext.trans Ew1.out hx)
        have HL3 := Lib.hid hL3; have HA3 := Lib.hid ha3; clear hL3 ha3
        clear hx
        try simp only [Act.put, List.setIfInBounds_toArray, List.set_cons_zero, List.set_cons_succ]
        refine ext_call (i := 8) rfl (by kernel_rfl) (by rfl) (fun K' hK => ?_)
        go_simp
        (go_at_call 18; (with_reducible refine (CE.out _ _ _ _ HA3.out HL3.out Ew2.out).mono ?_); rintro e w3 ⟨rfl, hx⟩; refine hK _ _ hx ?_; clear hK)
        have Ew3 := Lib.hid (Ext.trans Ew2.out hx)
        clear hx
        try simp only [Act.put, List.setIfInBounds_toArray, List.set_cons_zero, List.set_cons_succ]
        refine ext_take (i := 9) (v := ?_) rfl (by kernel_rfl) (by kernel_rfl) (by kernel_rfl) (fun _ _ _ h => h) (by rfl) ?_ ?_
        rotate_left
        · intro W hW; have hW0 := Ext.trans Ew3.out hW; clear hW; go_simp <;> with_reducible rfl
        try simp only [Act.put, List.setIfInBounds_toArray, List.set_cons_zero, List.set_cons_succ]
        refine ext_take (i := 10) (v := ?_) rfl (by kernel_rfl) (by kernel_rfl) (by kernel_rfl) (fun _ _ _ h => h) (by rfl) ?_ ?_
        rotate_left
        · intro W hW; have hW0 := Ext.trans Ew3.out hW; clear hW; go_simp <;> with_reducible rfl
        try simp only [Act.put, List.setIfInBounds_toArray, List.set_cons_zero, List.set_cons_succ]
        refine ext_take (i := 11) (v := ?_) rfl (by kernel_rfl) (by kernel_rfl) (by kernel_rfl) (fun _ _ _ h => h) (by rfl) ?_ ?_
        rotate_left
        · intro W hW; have hW0 := Ext.trans Ew3.out hW; clear hW; go_simp <;> with_reducible rfl
        try simp only [Act.put, List.setIfInBounds_toArray, List.set_cons_zero, List.set_cons_succ]
        refine ext_call (i := 12) rfl (by kernel_rfl) (by rfl) (fun K' hK => ?_)
        go_simp
        (go_at_call 19; (with_reducible refine (CACT.out _ Ew3.out).mono ?_); rintro e w4 ⟨A4, c4, L4, rfl, hL4, hc4, ha4, hx⟩; refine hK _ _ hx ?_; clear hK)
        have Ew4 := Lib.hid (Ext.trans Ew3.out hx)
        have HL4 := Lib.hid hL4; have HA4 := Lib.hid ha4; clear hL4 ha4
        clear hx
        try simp only [Act.put, List.setIfInBounds_toArray, List.set_cons_zero, List.set_cons_succ]
        refine ext_call (i := 13) rfl (by kernel_rfl) (by rfl) (fun K' hK => ?_)
        go_simp
        (go_at_call 20; (with_reducible refine (CM.out _ _ _ _ HA4.out HL4.out).mono ?_); rintro e w5 ⟨rfl, hx⟩; refine hK _ _ hx ?_; clear hK)
        have Ew5 := Lib.hid (Ext.trans Ew4.out hx)
        clear hx
        try simp only [Act.put, List.setIfInBounds_toArray, List.set_cons_zero, List.set_cons_succ]
        refine ext_take (i := 14) (v := ?_) rfl (by kernel_rfl) (by kernel_rfl) (by kernel_rfl) (fun _ _ _ h => h) (by rfl) ?_ ?_
        rotate_left
        · intro W hW; have hW0 := Ext.trans Ew5.out hW; clear hW; go_simp <;> with_reducible rfl
        try simp only [Act.put, List.setIfInBounds_toArray, List.set_cons_zero, List.set_cons_succ]
        refine ext_take (i := 15) (v := ?_) rfl (by kernel_rfl) (by kernel_rfl) (by kernel_rfl) (fun _ _ _ h => h) (by rfl) ?_ ?_
        rotate_left
        · intro W hW; have hW0 := Ext.trans Ew5.out hW; clear hW; go_simp <;> with_reducible rfl
        try simp only [Act.put, List.setIfInBounds_toArray, List.set_cons_zero, List.set_cons_succ]
        refine wpAnyH_done (by kernel_rfl) ?_ _
        go_wp2
        try go_ret
        exact hD.out _ _ ⟨rfl, Ext.trans HT.out.ext Ew5.out⟩

set_option maxRecDepth 100000 in
theorem law_pastPlays {H : Type} {enc : TypeId × Value → H} (W : World) (base : Nat) (args : Array Value) (ds : List (DataW H)) (p : List MemPlace)
    (hval : ∀ (j : Nat) t v, Try.f3.params[j]? = some t → args[j]? = some v → Value.okWide Try.prog W .any base t v)
    (hA : DataW.TrodAll enc Try.prog W 0 (fun _ => true) true Try.f3.params.toList args.toList ds p) :
    Calls Try.prog 3 args W fun e W' => e = .returned (.bool true) ∧ Below W.heap.size W W' := by
  rw [Try.params3] at hA hval
  obtain ⟨v0, vs0, d0, ds0, p0, q0, hargs, rfl, rfl, h0, r0⟩ := trodAll_cons hA
  obtain ⟨rfl, rfl, rfl⟩ := trodAll_nil r0
  obtain rfl : args = #[v0] := by cases args; simp_all
  obtain ⟨A0, n0, c0, rfl⟩ := okWide_slice Try.underlying22 (hval 0 22 v0 rfl rfl)
  obtain ⟨fuel0, hf0⟩ := h0
  obtain ⟨B0, l0, e0, hcs0, x0, y0, z0⟩ := open_ops22 hf0
  simp only [Value.cells, List.cons.injEq, Value.slice.injEq, and_true] at hcs0
  obtain ⟨rfl, rfl, rfl⟩ := hcs0
  exact walk_pastPlays A0 l0 c0 W x0 (Nat.le_trans x0 y0) z0
end Go.Proofs.Ytnionfddejaalaa
