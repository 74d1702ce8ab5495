/-
  The walk of the law PastFront: at most 40 steps.
-/
import Derived.Test.YtnionfddejaalaaFrontBase
namespace Go.Proofs.Ytnionfddejaalaa
set_option linter.unusedVariables false
set_option linter.unusedSimpArgs false
open Go.RowKit Go.ChangeShapes Go.WideShapes Go.Joins Go.Deep

open Classical in
set_option maxRecDepth 8000 in
set_option maxHeartbeats 32000000 in
theorem walk_front_a (A : Option Addr) (l : List Op22) (cap : Nat) (cut out : Int) (w : World) (hcap : l.length ≤ cap) (hc63 : l.length ≤ 9223372036854775807) (hS : So22 w A l) (hm : l.length ≤ 40) :
    Calls Try.prog 5 #[.slice A l.length cap, .int .i64 cut, .int .i64 out] w fun e w' => e = .returned (.bool true) ∧ Below w.heap.size w w' := by
  refine hide_post fun D hD => ?_
  obtain ⟨P1, hP1⟩ : ∃ P, P = w.heap.size := ⟨_, rfl⟩
  have CT : Hid (∀ V, Calls Try.prog 10 #[] V fun e w' => e = .returned (.bool true) ∧ Ext V w') := fun V => told22_any V
  have CN : Hid (Calls Try.prog 8 #[] w fun e w' => e = .returned (.pointer (some ⟨P1, 0, none⟩)) ∧ PAt w' w.heap.size P1 none .init ∧ Ext w w') := by rw [hP1]; exact pastNew_any w.heap.size w (Nat.le_refl _)
  have HP1 := Lib.hid hP1
  have HS := Lib.hid hS
  obtain ⟨n, hn⟩ : ∃ n, n = l.length := ⟨_, rfl⟩
  rw [← hn] at hcap hc63 hm ⊢
  have HN := Lib.hid hn
  clear hS hn hP1
  go_enter Try.func5, Try.ntmps5
  go_wp2_with (go_at_call 8; (with_reducible refine CN.out.mono ?_); rintro e w1 ⟨rfl, hp, hx⟩; have X1 := Lib.hid hx; have HPA1 := Lib.hid hp; clear hx hp)
  go_loopw [8] (fun i wr => ∃ (j : Nat) (st : Ps) (G : Option Nat), j ≤ n ∧ j ≤ 40 ∧ i = .int .i64 j ∧ Hid (PAt wr w.heap.size P1 G st) ∧ Hid (Sm st j) ∧ Hid (Ext w wr)) (fun i _ => n - (intOf i).toNat)
  case atStart => exact ⟨0, .init, none, by omega, by omega, rfl, HPA1.out, Sm.init, X1.out⟩
  case round =>
    obtain ⟨j, st, G, hj, hj80, rfl, HP, HSM, HX⟩ := hrel
    by_cases hlt : j < n ∧ j < 40
    · obtain ⟨hlt, hl80⟩ := hlt
      obtain ⟨x, hx⟩ : ∃ x, l[j]? = some x := ⟨_, List.getElem?_eq_getElem (by rw [← HN.out]; exact hlt)⟩
      obtain ⟨b, o, rfl, hc, hsl, hok⟩ := HS.out j x hx
      have hqd : x.qd.size ≤ maxLen := hok.2.2.2.2.2.2.2.2.1
      obtain ⟨kd, cl, sq, at9, qc, qs, qk, qi, qm, qd, rc, rv, rd, rA, rcap, rl⟩ := x
      simp only at hsl hqd
      obtain ⟨rn, hrn⟩ : ∃ r, r = rl.length := ⟨_, rfl⟩
      have HRN := Lib.hid hrn
      have c0 : wr.cell? ⟨b, o + j * 14 + 0, none⟩ = some (.int .i64 kd) := cell_stay HX.out (hc 0 (by decide))
      have c1 : wr.cell? ⟨b, o + j * 14 + 1, none⟩ = some (.int .i64 cl) := cell_stay HX.out (hc 1 (by decide))
      have c2 : wr.cell? ⟨b, o + j * 14 + 2, none⟩ = some (.int .i64 sq) := cell_stay HX.out (hc 2 (by decide))
      have c3 : wr.cell? ⟨b, o + j * 14 + 3, none⟩ = some (.int .i64 at9) := cell_stay HX.out (hc 3 (by decide))
      have c4 : wr.cell? ⟨b, o + j * 14 + 4, none⟩ = some (.int .i64 qc) := cell_stay HX.out (hc 4 (by decide))
      have c5 : wr.cell? ⟨b, o + j * 14 + 5, none⟩ = some (.int .i64 qs) := cell_stay HX.out (hc 5 (by decide))
      have c6 : wr.cell? ⟨b, o + j * 14 + 6, none⟩ = some (.int .i64 qk) := cell_stay HX.out (hc 6 (by decide))
      have c7 : wr.cell? ⟨b, o + j * 14 + 7, none⟩ = some (.int .i64 qi) := cell_stay HX.out (hc 7 (by decide))
      have c8 : wr.cell? ⟨b, o + j * 14 + 8, none⟩ = some (.int .i64 qm) := cell_stay HX.out (hc 8 (by decide))
      have c9 : wr.cell? ⟨b, o + j * 14 + 9, none⟩ = some (.string qd) := cell_stay HX.out (hc 9 (by decide))
      have c10 : wr.cell? ⟨b, o + j * 14 + 10, none⟩ = some (.int .i64 rc) := cell_stay HX.out (hc 10 (by decide))
      have c11 : wr.cell? ⟨b, o + j * 14 + 11, none⟩ = some (.int .i64 rv) := cell_stay HX.out (hc 11 (by decide))
      have c12 : wr.cell? ⟨b, o + j * 14 + 12, none⟩ = some (.string rd) := cell_stay HX.out (hc 12 (by decide))
      have c13 : wr.cell? ⟨b, o + j * 14 + 13, none⟩ = some (.slice rA rl.length rcap) := cell_stay HX.out (hc 13 (by decide))
      rw [← hrn] at c13
      have hj1 : (j : Int) < (n : Int) := by omega
      have hj0 : (0 : Int) ≤ (j : Int) := by omega
      have hj8 : (j : Int) < 40 := by omega
      have CF : Hid (∀ q, decide (qd.size ≤ 100 ∧ rd.size ≤ 200 ∧ rn ≤ 60) = q → Calls Try.prog 9 #[.agg #[.int .i64 kd, .int .i64 cl, .int .i64 sq, .int .i64 at9, .int .i64 qc, .int .i64 qs, .int .i64 qk, .int .i64 qi, .int .i64 qm, .string qd, .int .i64 rc, .int .i64 rv, .string rd, .slice rA rn rcap]] wr fun e w' => e = .returned (.bool q) ∧ Ext wr w') := fun q hq => by rw [← hq]; exact few22_any kd cl sq at9 qc qs qk qi qm qd rc rv rd rA rn rcap wr
      have HST := Lib.hid hsl
      have HQD := Lib.hid hqd
      have HC : Hid (∀ V, Ext w V → ∀ k, k < 14 → V.cell? ⟨b, o + j * 14 + k, none⟩ = (#[.int .i64 kd, .int .i64 cl, .int .i64 sq, .int .i64 at9, .int .i64 qc, .int .i64 qs, .int .i64 qk, .int .i64 qi, .int .i64 qm, .string qd, .int .i64 rc, .int .i64 rv, .string rd, .slice rA rn rcap] : Array Value)[k]?) := fun V h k hk => by
        have h1 := hc k hk
        have h0 : ∀ vv, (#[.int .i64 kd, .int .i64 cl, .int .i64 sq, .int .i64 at9, .int .i64 qc, .int .i64 qs, .int .i64 qk, .int .i64 qi, .int .i64 qm, .string qd, .int .i64 rc, .int .i64 rv, .string rd, .slice rA rn rcap] : Array Value)[k]? = some vv → w.cell? ⟨b, o + j * 14 + k, none⟩ = some vv := fun vv h2 => by
          rw [h1, ← h2, hrn]
          rfl
        have h2 : (#[.int .i64 kd, .int .i64 cl, .int .i64 sq, .int .i64 at9, .int .i64 qc, .int .i64 qs, .int .i64 qk, .int .i64 qi, .int .i64 qm, .string qd, .int .i64 rc, .int .i64 rv, .string rd, .slice rA rn rcap] : Array Value)[k]? = some ((#[.int .i64 kd, .int .i64 cl, .int .i64 sq, .int .i64 at9, .int .i64 qc, .int .i64 qs, .int .i64 qk, .int .i64 qi, .int .i64 qm, .string qd, .int .i64 rc, .int .i64 rv, .string rd, .slice rA rn rcap] : Array Value)[k]'(by show k < 14; exact hk)) := Array.getElem?_eq_getElem _
        rw [h2]
        exact cell_stay h (h0 _ h2)
      simp only [Nat.add_zero] at c0
      clear hc hx hok hrn hsl hqd
      cases hq : decide (qd.size ≤ 100 ∧ rd.size ≤ 200 ∧ rn ≤ 60) with
      | false =>
        have CF := Lib.hid (CF.out false hq)
        clear hq
        go_wp2_with (first
          | (go_at_call 9; (with_reducible refine CF.out.mono ?_); rintro e wf ⟨rfl, hx⟩; have XF := Lib.hid (Ext.trans HX.out hx); clear hx)
          | (go_at_call 10; (with_reducible refine (CT.out _).mono ?_); rintro e wt ⟨rfl, hx⟩; have XT := Lib.hid (Ext.trans XF.out hx); clear hx))
        try go_ret
        exact hD.out _ _ ⟨rfl, XT.out⟩
      | true =>
        have CF := Lib.hid (CF.out true hq)
        have hsm : qd.size ≤ 100 ∧ rd.size ≤ 200 ∧ rn ≤ 60 := of_decide_eq_true hq
        have HR60 : Hid (rl.length ≤ 60) := by (show _ ≤ _); rw [← HRN.out]; exact hsm.2.2
        clear hq hsm
        go_upto_region 9 with (go_at_call 9; (with_reducible refine CF.out.mono ?_); rintro e wf ⟨rfl, hx⟩; have XF := Lib.hid hx; clear hx)
        replace c0 := cell_stay XF.out c0
        replace c1 := cell_stay XF.out c1
        replace c2 := cell_stay XF.out c2
        replace c3 := cell_stay XF.out c3
        replace c4 := cell_stay XF.out c4
        replace c5 := cell_stay XF.out c5
        replace c6 := cell_stay XF.out c6
        replace c7 := cell_stay XF.out c7
        replace c8 := cell_stay XF.out c8
        replace c9 := cell_stay XF.out c9
        replace c10 := cell_stay XF.out c10
        replace c11 := cell_stay XF.out c11
        replace c12 := cell_stay XF.out c12
        replace c13 := cell_stay XF.out c13
        have HPF := Lib.hid (HP.out.stay XF.out)
        have HXF := Lib.hid (Ext.trans HX.out XF.out)
        have hsel : ∀ k, Psel P1 G k → w.heap.size ≤ k := fun k hk => (HPF.out.sel k hk).1
        have HSEL := Lib.hid hsel
        clear hsel
        by_cases hk0 : kd = 0
        · subst hk0
          have CA : Hid (Calls Try.prog 11 #[.pointer (some ⟨P1, 0, none⟩), .agg #[.int .i64 qc, .int .i64 qs, .int .i64 qk, .int .i64 qi, .int .i64 qm, .string qd]] wf fun e w' => ∃ v, e = .returned v ∧ POut wf w' w.heap.size P1 G (askN st ⟨qc, qs, qk, qi, qm, qd⟩)) :=
            (ask_any w.heap.size P1 G st qc qs qk qi qm qd wf HPF.out HSM.out.ok HQD.out (Nat.le_trans HSM.out.len (by omega))).mono fun e w' h => ⟨_, h.1, h.2⟩
          have HSM' := Lib.hid (HSM.out.ask ⟨qc, qs, qk, qi, qm, qd⟩)
          go_wp2_with (go_at_call 11; (with_reducible refine CA.out.mono ?_); rintro e w1 ⟨v9, rfl, hout⟩; have HOUT := Lib.hid hout; clear hout)
          obtain ⟨G', hP', hF', _⟩ := HOUT.out
          have HP' := Lib.hid hP'
          have HX' : Hid (Ext w w1) := Frm.step HXF.out hF' HXF.out.size HSEL.out
          clear hP' hF' c0 c1 c2 c3 c4 c5 c6 c7 c8 c9 c10 c11 c12 c13
          go_roundw
          case rel => exact ⟨j + 1, _, G', by omega, by omega, by go_num, HP'.out, HSM'.out, HX'.out⟩
          case measure => simp [intOf]; omega
        · have hk1 : (kd == 0) = false := by simp [hk0]
          have CP : Hid (Calls Try.prog 16 #[.pointer (some ⟨P1, 0, none⟩)] wf fun e w' => ∃ A c, e = .returned (.slice A (pendL st.wait 4).length c) ∧ (pendL st.wait 4).length ≤ c ∧ Rqs w' A (pendL st.wait 4) ∧ Ext wf w') := by
            refine (pend_any w.heap.size P1 G st wf HPF.out).mono ?_
            rintro e w' ⟨A, c, he, ho, hx⟩
            obtain ⟨_, A', c', e', hc, hq⟩ := ownQ_view ho
            injection e' with e1 e2 e3
            subst e1 e3
            exact ⟨A, c, he, hc, hq, hx⟩
          have hpl4 := pendL_len st.wait 4
          generalize pendL st.wait 4 = pl at *
          obtain ⟨np, hnp⟩ : ∃ np, np = pl.length := ⟨_, rfl⟩
          rw [← hnp] at CP hpl4
          have HNP := Lib.hid hnp
          clear hnp
          go_upto_region 12 with (go_at_call 16; (with_reducible refine CP.out.mono ?_); rintro e wp ⟨A3, c3p, rfl, hc3, hq3, hx⟩; have HQ3 := Lib.hid hq3; have XP := Lib.hid hx; clear hx hq3)
          replace c0 := cell_stay XP.out c0
          replace c1 := cell_stay XP.out c1
          replace c2 := cell_stay XP.out c2
          replace c3 := cell_stay XP.out c3
          replace c4 := cell_stay XP.out c4
          replace c5 := cell_stay XP.out c5
          replace c6 := cell_stay XP.out c6
          replace c7 := cell_stay XP.out c7
          replace c8 := cell_stay XP.out c8
          replace c9 := cell_stay XP.out c9
          replace c10 := cell_stay XP.out c10
          replace c11 := cell_stay XP.out c11
          replace c12 := cell_stay XP.out c12
          replace c13 := cell_stay XP.out c13
          by_cases hn0 : np = 0
          · subst hn0
            go_wp2
            go_roundw
            case rel => exact ⟨j + 1, st, G, by omega, by omega, by go_num, HPF.out.stay XP.out, HSM.out.more, Ext.trans HXF.out XP.out⟩
            case measure => simp [intOf]; omega
          · have hp0 : (0 : Int) < (np : Int) := by omega
            obtain ⟨k, hk, hk2⟩ := rem_of sq (show 0 < np by omega)
            obtain ⟨q, hq⟩ : ∃ q, pl[k]? = some q := ⟨_, List.getElem?_eq_getElem (by rw [← HNP.out]; exact hk)⟩
            obtain ⟨bq, oq, rfl, hcq⟩ := HQ3.out k q hq
            obtain ⟨zc, zs, zk, zi, zm, zd⟩ := q
            have e0 : wp.cell? _ = some (.int .i64 zc) := hcq 0 (by decide)
            have e1 : wp.cell? _ = some (.int .i64 zs) := hcq 1 (by decide)
            have e2 : wp.cell? _ = some (.int .i64 zk) := hcq 2 (by decide)
            have e3 : wp.cell? _ = some (.int .i64 zi) := hcq 3 (by decide)
            have e4 : wp.cell? _ = some (.int .i64 zm) := hcq 4 (by decide)
            have e5 : wp.cell? _ = some (.string zd) := hcq 5 (by decide)
            simp only [Nat.add_zero] at e0
            have hki : (k : Int) < (np : Int) := by omega
            have hk00 : (0 : Int) ≤ (k : Int) := by omega
            clear hcq hq
            obtain ⟨gq, hgq⟩ : ∃ gq, gq = wp.heap.size := ⟨_, rfl⟩
            obtain ⟨wq, hwq⟩ : ∃ wq, wq = wp.alloc (.cells #[.int .i64 zc, .int .i64 zs, .int .i64 zk, .int .i64 zi, .int .i64 zm, .string zd] 29) := ⟨_, rfl⟩
            have XQ : Hid (Ext wp wq) := by show Ext _ _; rw [hwq]; exact Ext.alloc _ _
            have KQ : Hid (Blk wq gq 29 #[.int .i64 zc, .int .i64 zs, .int .i64 zk, .int .i64 zi, .int .i64 zm, .string zd]) := by show Blk _ _ _ _; rw [hwq, hgq]; exact Blk.new _ _ _
            have HPQ := Lib.hid (HPF.out.stay (Ext.trans XP.out XQ.out))
            have HXQ := Lib.hid (Ext.trans HXF.out (Ext.trans XP.out XQ.out))
            have HNS : Hid (¬ Psel P1 G gq) := fun hs => by
              obtain ⟨_, cs', h' | h'⟩ := HPQ.out.sel gq hs
              · exact Blk.apart KQ.out h' (by decide) rfl
              · exact Blk.apart KQ.out h' (by decide) rfl
            have HWQ := Lib.hid hwq
            have HGQ := Lib.hid hgq
            clear hwq hgq
            go_upto_region 14 with fail
            rw [← HWQ.out, ← HGQ.out]
            have E14 : Hid (Frm (Psel P1 G) wq wq.drew) := Frm.drew (Frm.refl _ _)
            have HXV : Hid (∀ V, Frm (Psel P1 G) wq V → Ext w V) := fun V h => Frm.step HXQ.out h HXQ.out.size HSEL.out
            have y3 : ∀ V, Frm (Psel P1 G) wq V → V.cell? ⟨b, o + j * 14 + 3, none⟩ = some (.int .i64 at9) := fun V h => HC.out V (HXV.out V h) 3 (by decide)
            have y10 : ∀ V, Frm (Psel P1 G) wq V → V.cell? ⟨b, o + j * 14 + 10, none⟩ = some (.int .i64 rc) := fun V h => HC.out V (HXV.out V h) 10 (by decide)
            have y11 : ∀ V, Frm (Psel P1 G) wq V → V.cell? ⟨b, o + j * 14 + 11, none⟩ = some (.int .i64 rv) := fun V h => HC.out V (HXV.out V h) 11 (by decide)
            have y12 : ∀ V, Frm (Psel P1 G) wq V → V.cell? ⟨b, o + j * 14 + 12, none⟩ = some (.string rd) := fun V h => HC.out V (HXV.out V h) 12 (by decide)
            have y13 : ∀ V, Frm (Psel P1 G) wq V → V.cell? ⟨b, o + j * 14 + 13, none⟩ = some (.slice rA rn rcap) := fun V h => HC.out V (HXV.out V h) 13 (by decide)
            have z0 : ∀ V, Frm (Psel P1 G) wq V → V.cell? ⟨gq, 0, none⟩ = some (.int .i64 zc) := fun V h => (KQ.out.frm h HNS.out).cell 0
            have z1 : ∀ V, Frm (Psel P1 G) wq V → V.cell? ⟨gq, 1, none⟩ = some (.int .i64 zs) := fun V h => (KQ.out.frm h HNS.out).cell 1
            have CA : Hid (∀ at', Calls Try.prog 13 #[.pointer (some ⟨P1, 0, none⟩), .int .i64 zc, .int .i64 zs, .agg #[.int .i64 rc, .int .i64 rv, .string rd, .slice rA rn rcap], .int .i64 at'] wq.drew fun e w' => ∃ v, e = .returned v ∧ POut wq.drew w' w.heap.size P1 G (ansN st zc zs ⟨rc, rv, rd, rl⟩ at')) := fun at' => by
              have h7 := (ans_any w.heap.size P1 G st zs rc rv rd rA rcap rl at' zc wq.drew (HPQ.out.stay (Ext.drewR (Ext.refl _))) HSM.out.ok (Nat.le_trans HSM.out.len (by omega)) (Nat.le_trans HR60.out (by decide)) (HST.out.stay (Ext.trans HXQ.out (Ext.drewR (Ext.refl _))))).mono fun e w' h => (⟨_, h.1, h.2⟩ : ∃ v, e = .returned v ∧ POut wq.drew w' w.heap.size P1 G (ansN st zc zs ⟨rc, rv, rd, rl⟩ at'))
              rw [← HRN.out] at h7
              exact h7
            clear c0 c1 c2 c3 c4 c5 c6 c7 c8 c9 c10 c11 c12 c13 e0 e1 e2 e3 e4 e5 hk2
            have HSM' := Lib.hid (fun at' => HSM.out.ans zc zs ⟨rc, rv, rd, rl⟩ at' HR60.out)
            refine rz_begin (Psel P1 G) [] (by kernel_rfl) ?_
            refine rz_take [18] (i := 0) (v := ?_) rfl (by kernel_rfl) (by kernel_rfl) (by kernel_rfl) (by kernel_rfl) (by kernel_rfl) (by kernel_rfl) (fun _ _ _ h => h) (by rfl) ?_ ?_
            rotate_left
            · intro W hW; have hW0 := Frm.tr E14.out hW; clear hW; go_simp <;> with_reducible rfl
            try simp only [Act.put, List.setIfInBounds_toArray, List.set_cons_zero, List.set_cons_succ]
            refine rz_take [2, 18] (i := 1) (v := ?_) rfl (by kernel_rfl) (by kernel_rfl) (by kernel_rfl) (by kernel_rfl) (by kernel_rfl) (by kernel_rfl) (fun _ _ _ h => h) (by rfl) ?_ ?_
            rotate_left
            · intro W hW; have hW0 := Frm.tr E14.out hW; clear hW; go_simp <;> with_reducible rfl
            try simp only [Act.put, List.setIfInBounds_toArray, List.set_cons_zero, List.set_cons_succ]
            refine rz_take [18] (i := 2) (v := ?_) rfl (by kernel_rfl) (by kernel_rfl) (by kernel_rfl) (by kernel_rfl) (by kernel_rfl) (by kernel_rfl) (fun _ _ _ h => h) (by rfl) ?_ ?_
            rotate_left
            · intro W hW; have hW0 := Frm.tr E14.out hW; clear hW; go_simp <;> with_reducible rfl
            try simp only [Act.put, List.setIfInBounds_toArray, List.set_cons_zero, List.set_cons_succ]
            refine rz_take [4, 18] (i := 3) (v := ?_) rfl (by kernel_rfl) (by kernel_rfl) (by kernel_rfl) (by kernel_rfl) (by kernel_rfl) (by kernel_rfl) (fun _ _ _ h => h) (by rfl) ?_ ?_
            rotate_left
            · intro W hW; have hW0 := Frm.tr E14.out hW; clear hW; go_simp <;> with_reducible rfl
            try simp only [Act.put, List.setIfInBounds_toArray, List.set_cons_zero, List.set_cons_succ]
            refine rz_take [18] (i := 4) (v := ?_) rfl (by kernel_rfl) (by kernel_rfl) (by kernel_rfl) (by kernel_rfl) (by kernel_rfl) (by kernel_rfl) (fun _ _ _ h => h) (by rfl) ?_ ?_
            rotate_left
            · intro W hW; have hW0 := Frm.tr E14.out hW; clear hW; go_simp <;> with_reducible rfl
            try simp only [Act.put, List.setIfInBounds_toArray, List.set_cons_zero, List.set_cons_succ]
            refine rz_take [7, 8, 9, 18] (i := 5) (v := ?_) rfl (by kernel_rfl) (by kernel_rfl) (by kernel_rfl) (by kernel_rfl) (by kernel_rfl) (by kernel_rfl) (fun _ _ _ h => h) (by rfl) ?_ ?_
            rotate_left
            · intro W hW; have hW0 := Frm.tr E14.out hW; clear hW; go_simp <;> with_reducible rfl
            try simp only [Act.put, List.setIfInBounds_toArray, List.set_cons_zero, List.set_cons_succ]
            refine rz_take [7, 8, 9, 18] (i := 6) (v := ?_) rfl (by kernel_rfl) (by kernel_rfl) (by kernel_rfl) (by kernel_rfl) (by kernel_rfl) (by kernel_rfl) (fun _ _ _ h => h) (by rfl) ?_ ?_
            rotate_left
            · intro W hW; have hW0 := Frm.tr E14.out hW; clear hW; go_simp <;> with_reducible rfl
            try simp only [Act.put, List.setIfInBounds_toArray, List.set_cons_zero, List.set_cons_succ]
            refine rz_take [8, 9, 18] (i := 7) (v := ?_) rfl (by kernel_rfl) (by kernel_rfl) (by kernel_rfl) (by kernel_rfl) (by kernel_rfl) (by kernel_rfl) (fun _ _ _ h => h) (by rfl) ?_ ?_
            rotate_left
            · intro W hW; have hW0 := Frm.tr E14.out hW; clear hW; go_simp <;> with_reducible rfl
            try simp only [Act.put, List.setIfInBounds_toArray, List.set_cons_zero, List.set_cons_succ]
            refine rz_take [9, 18] (i := 8) (v := ?_) rfl (by kernel_rfl) (by kernel_rfl) (by kernel_rfl) (by kernel_rfl) (by kernel_rfl) (by kernel_rfl) (fun _ _ _ h => h) (by rfl) ?_ ?_
            rotate_left
            · intro W hW; have hW0 := Frm.tr E14.out hW; clear hW; go_simp <;> with_reducible rfl
            try simp only [Act.put, List.setIfInBounds_toArray, List.set_cons_zero, List.set_cons_succ]
            refine rz_take [18] (i := 9) (v := ?_) rfl (by kernel_rfl) (by kernel_rfl) (by kernel_rfl) (by kernel_rfl) (by kernel_rfl) (by kernel_rfl) (fun _ _ _ h => h) (by rfl) ?_ ?_
            rotate_left
            · intro W hW; have hW0 := Frm.tr E14.out hW; clear hW; go_simp <;> with_reducible rfl
            try simp only [Act.put, List.setIfInBounds_toArray, List.set_cons_zero, List.set_cons_succ]
            refine rz_take [12, 13, 14, 15, 16, 17, 18] (i := 10) (v := ?_) rfl (by kernel_rfl) (by kernel_rfl) (by kernel_rfl) (by kernel_rfl) (by kernel_rfl) (by kernel_rfl) (fun _ _ _ h => h) (by rfl) ?_ ?_
            rotate_left
            · intro W hW; have hW0 := Frm.tr E14.out hW; clear hW; go_simp <;> with_reducible rfl
            try simp only [Act.put, List.setIfInBounds_toArray, List.set_cons_zero, List.set_cons_succ]
            refine rz_take [12, 13, 14, 15, 16, 17, 18] (i := 11) (v := ?_) rfl (by kernel_rfl) (by kernel_rfl) (by kernel_rfl) (by kernel_rfl) (by kernel_rfl) (by kernel_rfl) (fun _ _ _ h => h) (by rfl) ?_ ?_
            rotate_left
            · intro W hW; have hW0 := Frm.tr E14.out hW; clear hW; go_simp <;> with_reducible rfl
            try simp only [Act.put, List.setIfInBounds_toArray, List.set_cons_zero, List.set_cons_succ]
            refine rz_take [13, 14, 15, 16, 17, 18] (i := 12) (v := ?_) rfl (by kernel_rfl) (by kernel_rfl) (by kernel_rfl) (by kernel_rfl) (by kernel_rfl) (by kernel_rfl) (fun _ _ _ h => h) (by rfl) ?_ ?_
            rotate_left
            · intro W hW; have hW0 := Frm.tr E14.out hW; clear hW; go_simp <;> with_reducible rfl
            try simp only [Act.put, List.setIfInBounds_toArray, List.set_cons_zero, List.set_cons_succ]
            refine rz_take [14, 15, 16, 17, 18] (i := 13) (v := ?_) rfl (by kernel_rfl) (by kernel_rfl) (by kernel_rfl) (by kernel_rfl) (by kernel_rfl) (by kernel_rfl) (fun _ _ _ h => h) (by rfl) ?_ ?_
            rotate_left
            · intro W hW; have hW0 := Frm.tr E14.out hW; clear hW; go_simp <;> with_reducible rfl
            try simp only [Act.put, List.setIfInBounds_toArray, List.set_cons_zero, List.set_cons_succ]
            refine rz_take [15, 16, 17, 18] (i := 14) (v := ?_) rfl (by kernel_rfl) (by kernel_rfl) (by kernel_rfl) (by kernel_rfl) (by kernel_rfl) (by kernel_rfl) (fun _ _ _ h => h) (by rfl) ?_ ?_
            rotate_left
            · intro W hW; have hW0 := Frm.tr E14.out hW; clear hW; go_simp <;> with_reducible rfl
            try simp only [Act.put, List.setIfInBounds_toArray, List.set_cons_zero, List.set_cons_succ]
            refine rz_take [16, 17, 18] (i := 15) (v := ?_) rfl (by kernel_rfl) (by kernel_rfl) (by kernel_rfl) (by kernel_rfl) (by kernel_rfl) (by kernel_rfl) (fun _ _ _ h => h) (by rfl) ?_ ?_
            rotate_left
            · intro W hW; have hW0 := Frm.tr E14.out hW; clear hW; go_simp <;> with_reducible rfl
            try simp only [Act.put, List.setIfInBounds_toArray, List.set_cons_zero, List.set_cons_succ]
            refine rz_take [17, 18] (i := 16) (v := ?_) rfl (by kernel_rfl) (by kernel_rfl) (by kernel_rfl) (by kernel_rfl) (by kernel_rfl) (by kernel_rfl) (fun _ _ _ h => h) (by rfl) ?_ ?_
            rotate_left
            · intro W hW; have hW0 := Frm.tr E14.out hW; clear hW; go_simp <;> with_reducible rfl
            try simp only [Act.put, List.setIfInBounds_toArray, List.set_cons_zero, List.set_cons_succ]
            refine rz_take [18] (i := 17) (v := ?_) rfl (by kernel_rfl) (by kernel_rfl) (by kernel_rfl) (by kernel_rfl) (by kernel_rfl) (by kernel_rfl) (fun _ _ _ h => h) (by rfl) ?_ ?_
            rotate_left
            · intro W hW; have hW0 := Frm.tr E14.out hW; clear hW; go_simp <;> with_reducible rfl
            try simp only [Act.put, List.setIfInBounds_toArray, List.set_cons_zero, List.set_cons_succ]
            refine rz_call (i := 18) rfl (by kernel_rfl) (by rfl) (fun K hK => ?_)
            go_simp
            (go_at_call 13; (with_reducible refine (CA.out _).mono ?_); rintro e w1 ⟨v9, rfl, hout⟩; have HOUT := Lib.hid hout; obtain ⟨_, _, hx, _⟩ := hout; refine hK _ _ hx ?_; clear hK K)
            have Ew1 := Lib.hid (Frm.tr E14.out hx)
            clear hx
            try simp only [Act.put, List.setIfInBounds_toArray, List.set_cons_zero, List.set_cons_succ]
            refine rz_done (by kernel_rfl) ?_ _
            obtain ⟨G', hP', hF', _⟩ := HOUT.out
            have HP' := Lib.hid hP'
            have HX' : Hid (Ext w w1) := Frm.step HXQ.out (Frm.of_drew hF') HXQ.out.size HSEL.out
            clear hP' hF' y3 y10 y11 y12 y13 z0 z1
            go_wp2
            go_roundw
            case rel => exact ⟨j + 1, _, G', by omega, by omega, by go_num, HP'.out, HSM'.out _, HX'.out⟩
            case measure => simp [intOf]; omega
    · have h3 : ¬ ((j : Int) < (n : Int)) := by omega
      have CACT : Hid (Calls Try.prog 19 #[.pointer (some ⟨P1, 0, none⟩)] wr fun e w' => ∃ A c L, e = .returned (.slice A (List.length L) c) ∧ L.map At.x = st.acts ∧ L.length ≤ c ∧ Acs w' A L ∧ Ext wr w') := acts_any w.heap.size P1 G st wr HP.out (Nat.le_trans HSM.out.len (by omega)) (fun a ha => Nat.le_trans (HSM.out.sm a ha) (by decide))
      go_upto_region 16 with (go_at_call 19; (with_reducible refine CACT.out.mono ?_); rintro e wa ⟨Aa, ca, La, rfl, hLa, hca, haa, hx⟩; have HLA := Lib.hid hLa; have HCA := Lib.hid hca; have HACS0 := Lib.hid haa; have HXA := Lib.hid (Ext.trans HX.out hx); clear hLa hca haa hx)
      obtain ⟨na, hna⟩ : ∃ na, na = La.length := ⟨_, rfl⟩
      rw [← hna]
      have HNA := Lib.hid hna
      have HMAYL : Hid (mayF (La.map At.x)) := by show mayF _; rw [HLA.out]; exact ⟨st, HSM.out.run⟩
      have HLL : Hid (na ≤ 1000000 ∧ La.length = na) := ⟨by rw [hna, ← List.length_map (f := At.x), HLA.out]; exact Nat.le_trans HSM.out.len (by omega), hna.symm⟩
      have HMEM : Hid (∀ t ∈ La, t.x.r.l.length ≤ 17592186043904 ∧ t.x.q.d.size ≤ maxLen) := fun t ht => by
        have hm : t.x ∈ st.acts := by rw [← HLA.out]; exact List.mem_map_of_mem ht
        exact ⟨Nat.le_trans (HSM.out.sm _ hm) (by decide), HSM.out.qd _ hm⟩
      have hca : na ≤ ca := by rw [hna]; exact HCA.out
      have hnab : na ≤ 1000000 := HLL.out.1
      have CM0 : Hid (Calls Try.prog 20 #[.slice Aa na ca] wa fun e w' => e = .returned (.bool true) ∧ Ext wa w') := by
        have h7 := may_any Aa ca La wa (by rw [HLL.out.2]; exact HLL.out.1) (fun t ht => (HMEM.out t ht).1) (fun t ht => (HMEM.out t ht).2) HACS0.out
        rw [decide_eq_true HMAYL.out, HLL.out.2] at h7
        exact h7
      clear hna CACT
      go_upto_region 18 with (go_at_call 20; (with_reducible refine CM0.out.mono ?_); rintro e wm ⟨rfl, hx⟩; have XM := Lib.hid hx; clear hx)
      by_cases hna0 : na = 0
      · subst hna0
        go_wp2_with (go_at_call 10; (with_reducible refine (CT.out _).mono ?_); rintro e w6 ⟨rfl, hx⟩; have X6 := Lib.hid hx; clear hx)
        try go_ret
        exact hD.out _ _ ⟨rfl, Ext.trans HXA.out (Ext.trans XM.out X6.out)⟩
      obtain ⟨t0, ht0⟩ : ∃ t0, La[0]? = some t0 := ⟨_, List.getElem?_eq_getElem (by rw [HLL.out.2]; omega)⟩
      obtain ⟨ba, oa, rfl, _⟩ := HACS0.out 0 t0 ht0
      have HACS := HACS0
      clear ht0 CM0
      have hnap : (0 : Int) < (na : Int) := by omega
      have hb0 : ((na : Int) == 0) = false := by simp; omega
      obtain ⟨k, hk, hk2⟩ := rem_of cut (show 0 < na by omega)
      obtain ⟨jj, hjj, hjj2⟩ := rem_of out (show 0 < na by omega)
      have CM1 : Hid (Calls Try.prog 20 #[.slice (some ⟨ba, oa, none⟩) k ca] wm fun e w' => e = .returned (.bool true) ∧ Ext wm w') := by
        have h7 := may_any (some ⟨ba, oa, none⟩) ca (La.take k) wm (by rw [List.length_take]; omega) (fun t ht => (HMEM.out t (List.mem_of_mem_take ht)).1) (fun t ht => (HMEM.out t (List.mem_of_mem_take ht)).2) ((HACS.out.take k).stay XM.out)
        rw [List.length_take, HLL.out.2, Nat.min_eq_left (by omega), decide_eq_true (show mayF ((La.take k).map At.x) by rw [List.map_take]; exact may_take HMAYL.out k)] at h7
        exact h7
      have hki : (k : Int) < (na : Int) := by omega
      have hk00 : (0 : Int) ≤ (k : Int) := by omega
      have hkc : k ≤ ca := by omega
      have hkci : (k : Int) ≤ (ca : Int) := by omega
      go_upto_region 23 with (go_at_call 20; (with_reducible refine CM1.out.mono ?_); rintro e wl0 ⟨rfl, hx⟩; have XL0 := Lib.hid (Ext.trans XM.out hx); clear hx)
      clear hk2 hki hk00 hkc hkci CM1
      obtain ⟨xt, hxt⟩ : ∃ xt, La[jj]? = some xt := ⟨_, List.getElem?_eq_getElem (by rw [HLL.out.2]; omega)⟩
      have hxx : (La.map At.x)[jj]? = some xt.x := by rw [List.getElem?_map, hxt]; rfl
      have hxc : ∀ t, t < 14 → wa.cell? ⟨ba, oa + jj * 14 + t, none⟩ = (acRow xt.x xt.A xt.cap)[t]? := by
        obtain ⟨b', o', e, hc, _⟩ := HACS.out jj xt hxt
        injection e with e
        injection e with e1 e2
        subst e1 e2
        exact hc
      obtain ⟨⟨xcl, xsq, xans, xq, xr, xat⟩, xA, xcap⟩ := xt
      simp only at hxx
      have HX0 : Hid (wa.cell? ⟨ba, oa + jj * 14 + 0, none⟩ = some (.int .i64 xcl)) := hxc 0 (by decide)
      have HX1 : Hid (wa.cell? ⟨ba, oa + jj * 14 + 1, none⟩ = some (.int .i64 xsq)) := hxc 1 (by decide)
      have HX2 : Hid (wa.cell? ⟨ba, oa + jj * 14 + 2, none⟩ = some (.bool xans)) := hxc 2 (by decide)
      have HXX := Lib.hid hxx
      have hji : (jj : Int) < (na : Int) := by omega
      have hj00 : (0 : Int) ≤ (jj : Int) := by omega
      have hjc : jj ≤ ca := by omega
      have hjci : (jj : Int) ≤ (ca : Int) := by omega
      have hj1 : jj + 1 ≤ na := by omega
      have hj1i : (jj : Int) + 1 ≤ (na : Int) := by omega
      have hj1t : ((jj : Int) + 1).toNat = jj + 1 := by omega
      have hj1w : IntKind.i64.wrap ((jj : Int) + 1) = (jj : Int) + 1 := IntWalk.i64_in _ (by omega)
      obtain ⟨B2, hB2⟩ : ∃ B2, (if ca = jj + 1 then oa else oa + (jj + 1) * 14) = B2 := ⟨_, rfl⟩
      have HB2N : Hid (La.drop (jj + 1) ≠ [] → B2 = oa + (jj + 1) * 14) := fun hne => by
        rw [← hB2, if_neg]
        intro e
        refine hne (List.drop_eq_nil_of_le ?_)
        rw [HLL.out.2]
        omega
      have HB2 : Hid ((if ca = jj + 1 then (some ⟨ba, oa, none⟩ : Option Addr) else some ⟨ba, oa + (jj + 1) * 14, none⟩) = some ⟨ba, B2, none⟩) := by
        show _ = _
        rw [← hB2]
        split <;> rfl
      have HFL1 : Hid ((flatA (La.take jj)).length = jj * 14) := by (show _ = _); rw [flatA_length, List.length_take, HLL.out.2, Nat.min_eq_left (by omega)]
      have HFL2 : Hid ((flatA (La.drop (jj + 1))).length = (na - (jj + 1)) * 14) := by (show _ = _); rw [flatA_length, List.length_drop, HLL.out.2]
      clear hxc hxt hxx hB2
      cases xans with
      | true =>
        go_wp2
        go_loopw [14, 15] (fun q i wr => q = .bool false ∧ i = .int .i64 ((jj : Int) + 1) ∧ Hid (Ext wa wr)) (fun _ i _ => na - (intOf i).toNat)
        case atStart => exact ⟨rfl, by go_num, XL0.out⟩
        case round =>
          obtain ⟨rfl, rfl, X⟩ := hrel
          have z2 := cell_stay X.out HX2.out
          by_cases hin : jj + 1 < na
          · have i1 : (jj : Int) + 1 < (na : Int) := by omega
            obtain ⟨wl, hwl⟩ : ∃ wl, wl = wr := ⟨_, rfl⟩
            subst hwl
            have HN0 : Hid (wl.heap.size = wl.drew.heap.size) := rfl
            have E29 : Hid (Frm (fun k => wl.heap.size ≤ k) wl wl.drew) := Frm.drew (Frm.refl _ _)
            have HEXT : Hid (∀ V, Frm (fun k => wl.heap.size ≤ k) wl V → Ext wl V) := fun V h => h.below (Nat.le_refl _) (fun k hk => by have hk' : wl.heap.size ≤ k := hk; have := HN0.out; have h2 : wl.drew.heap.size = wl.heap.size := rfl; omega)
            have HMADE : Hid ((wl.drew.alloc (.cells #[] 50)).ownsRow wl.heap.size 50 14 (.slice (some ⟨wl.heap.size, 0, none⟩) 0 0) 0 []) := by
              exact World.ownsRow_made (base := wl.heap.size) (e := 50) (size := 14) wl.drew #[] 0 (Nat.le_refl _) (Nat.zero_le _) rfl
            have HOWN0 : Hid (∀ k, some k = (Value.slice (some ⟨wl.heap.size, 0, none⟩) 0 0).ownBlock → wl.heap.size ≤ k) := fun k hk => by injection hk with hk; rw [hk]; exact Nat.le_refl _
            have HNW1 : Hid (∀ V, Ext wl.drew V → ∀ (k : Nat) (u : Value), (flatA (La.take jj))[k]? = some u → V.cell? (Addr.add ⟨ba, oa, none⟩ k) = some u) := fun V h k u hk => by
              rw [Go.WideShapes.add_plain]
              exact acs_flat ((HACS.out.take jj).stay (Ext.trans X.out (Ext.trans (Ext.drewR (Ext.refl wl)) h))) k u hk
            have HNW2 : Hid (∀ V, Ext wl V → ∀ (k : Nat) (u : Value), (flatA (La.drop (jj + 1)))[k]? = some u → V.cell? (Addr.add ⟨ba, B2, none⟩ k) = some u) := fun V h k u hk => by
              rw [Go.WideShapes.add_plain]
              have hne : La.drop (jj + 1) ≠ [] := fun e => by rw [e] at hk; simp [flatA] at hk
              rw [HB2N.out hne]
              exact acs_flat ((HACS.out.drop (jj + 1)).stay (Ext.trans X.out h)) k u hk
            go_wp2
            refine rz_begin (fun k => wl.heap.size ≤ k) [] (by kernel_rfl) ?_
            refine rz_take [3, 4, 9, 10] (i := 1) (v := ?_) rfl (by kernel_rfl) (by kernel_rfl) (by kernel_rfl) (by kernel_rfl) (by kernel_rfl) (by kernel_rfl) (fun _ _ _ h => h) (by rfl) ?_ ?_
            rotate_left
            · intro W hW; have hW0 := Frm.tr E29.out hW; clear hW; go_simp <;> with_reducible rfl
            try simp only [Act.put, List.setIfInBounds_toArray, List.set_cons_zero, List.set_cons_succ]
            refine rz_take [3, 4, 9, 10] (i := 2) (v := ?_) rfl (by kernel_rfl) (by kernel_rfl) (by kernel_rfl) (by kernel_rfl) (by kernel_rfl) (by kernel_rfl) (fun _ _ _ h => h) (by rfl) ?_ ?_
            rotate_left
            · intro W hW; have hW0 := Frm.tr E29.out hW; clear hW; go_simp <;> with_reducible rfl
            try simp only [Act.put, List.setIfInBounds_toArray, List.set_cons_zero, List.set_cons_succ]
            refine rz_take [4, 9, 10] (i := 3) (v := ?_) rfl (by kernel_rfl) (by kernel_rfl) (by kernel_rfl) (by kernel_rfl) (by kernel_rfl) (by kernel_rfl) (fun _ _ _ h => h) (by rfl) ?_ ?_
            rotate_left
            · intro W hW; have hW0 := Frm.tr E29.out hW; clear hW; go_simp <;> with_reducible rfl
            try simp only [Act.put, List.setIfInBounds_toArray, List.set_cons_zero, List.set_cons_succ]
            refine rz_take [8, 9, 10] (i := 5) (v := ?_) rfl (by kernel_rfl) (by kernel_rfl) (by kernel_rfl) (by kernel_rfl) (by kernel_rfl) (by kernel_rfl) (fun _ _ _ h => h) (by rfl) ?_ ?_
            rotate_left
            · intro W hW; have hW0 := Frm.tr E29.out hW; clear hW; go_simp <;> with_reducible rfl
            try simp only [Act.put, List.setIfInBounds_toArray, List.set_cons_zero, List.set_cons_succ]
            refine rz_take [7, 8, 9, 10] (i := 6) (v := ?_) rfl (by kernel_rfl) (by kernel_rfl) (by kernel_rfl) (by kernel_rfl) (by kernel_rfl) (by kernel_rfl) (fun _ _ _ h => h) (by rfl) ?_ ?_
            rotate_left
            · intro W hW; have hW0 := Frm.tr E29.out hW; clear hW; go_simp <;> with_reducible rfl
            try simp only [Act.put, List.setIfInBounds_toArray, List.set_cons_zero, List.set_cons_succ]
            refine rz_take [8, 9, 10] (i := 7) (v := ?_) rfl (by kernel_rfl) (by kernel_rfl) (by kernel_rfl) (by kernel_rfl) (by kernel_rfl) (by kernel_rfl) (fun _ _ _ h => h) (by rfl) ?_ ?_
            rotate_left
            · intro W hW; have hW0 := Frm.tr E29.out hW; clear hW; go_simp <;> with_reducible rfl
            try simp only [Act.put, List.setIfInBounds_toArray, List.set_cons_zero, List.set_cons_succ]
            refine rz_take [9, 10] (i := 8) (v := .slice (some ⟨ba, B2, none⟩) (na - (jj + 1)) (ca - (jj + 1))) rfl (by kernel_rfl) (by kernel_rfl) (by kernel_rfl) (by kernel_rfl) (by kernel_rfl) (by kernel_rfl) (fun _ _ _ h => h) (by rfl) ?_ ?_
            · intro W hW; have hW0 := Frm.tr E29.out hW; clear hW; go_simp; all_goals (first | done | (rw [HB2.out]; done) | (simp [HB2.out]; done) | (simp [HB2.out]; intro h9; omega))
            try simp only [Act.put, List.setIfInBounds_toArray, List.set_cons_zero, List.set_cons_succ]
            refine rz_call (i := 0) rfl (by kernel_rfl) (by rfl) (fun K hK => ?_)
            go_simp
            refine hK _ _ (Frm.of_alloc _ _ _) ?_; clear hK K
            have Ea := Lib.hid (Frm.tr E29.out (Frm.of_alloc wl.drew (.cells #[] 50) _))
            try simp only [Act.put, List.setIfInBounds_toArray, List.set_cons_zero, List.set_cons_succ]
            refine rz_call (i := 4) rfl (by kernel_rfl) (by rfl) (fun K hK => ?_)
            refine wp_append_wides (.tmp 166) (.tmp 169) 26 rfl wl.heap.size 50 _ 14 144 Try.underlying26 info_act rfl (by decide) (by decide) (.slice (some ⟨wl.heap.size, 0, none⟩) 0 0) 0 [] (by rfl) HMADE.out ⟨ba, oa, none⟩ jj ca (flatA (La.take jj)) (by rfl) HFL1.out (HNW1.out _ (Ext.alloc _ _)) flat_cells (by omega) (by show wl.heap.size ≤ (wl.alloc (.cells #[] 50)).heap.size; rw [World.size_alloc]; omega) ?_
            intro v2 W4 oo gg bb
            refine hK _ _ (Frm.of_grown gg (fun k hk => HOWN0.out k hk)) ?_; clear hK K
            have Eb := Lib.hid (Frm.tr Ea.out (Frm.of_grown gg (fun k hk => HOWN0.out k hk)))
            have O4 := Lib.hid oo
            obtain ⟨A4, cap4, hv4⟩ := own_shape oo
            subst hv4
            clear oo gg bb
            try simp only [Act.put, List.setIfInBounds_toArray, List.set_cons_zero, List.set_cons_succ]
            refine rz_call (i := 9) rfl (by kernel_rfl) (by rfl) (fun K hK => ?_)
            refine wp_append_wides (.tmp 170) (.tmp 174) 26 rfl wl.heap.size 50 _ 14 144 Try.underlying26 info_act rfl (by decide) (by decide) (.slice A4 (0 + jj) cap4) (0 + jj) ([] ++ flatA (La.take jj)) (by rfl) O4.out ⟨ba, B2, none⟩ (na - (jj + 1)) (ca - (jj + 1)) (flatA (La.drop (jj + 1))) (by rfl) HFL2.out (HNW2.out _ (HEXT.out _ Eb.out)) flat_cells (by omega) Eb.out.size ?_
            intro v2 W5 oo gg bb
            refine hK _ _ (Frm.of_grown gg (fun k hk => (O4.out.lt k hk.symm).1)) ?_; clear hK K
            have Ec := Lib.hid (Frm.tr Eb.out (Frm.of_grown gg (fun k hk => (O4.out.lt k hk.symm).1)))
            have O5 := Lib.hid oo
            obtain ⟨A5, cap5, hv5⟩ := own_shape oo
            subst hv5
            clear oo gg bb
            try simp only [Act.put, List.setIfInBounds_toArray, List.set_cons_zero, List.set_cons_succ]
            refine rz_take [] (i := 10) (v := ?_) rfl (by kernel_rfl) (by kernel_rfl) (by kernel_rfl) (by kernel_rfl) (by kernel_rfl) (by kernel_rfl) (fun _ _ _ h => h) (by rfl) ?_ ?_
            rotate_left
            · intro W hW; have hW0 := Frm.tr Ec.out hW; clear hW; go_simp <;> with_reducible rfl
            try simp only [Act.put, List.setIfInBounds_toArray, List.set_cons_zero, List.set_cons_succ]
            refine rz_done (by kernel_rfl) ?_ _
            have HCB : Hid (∃ A c, Value.slice A5 (0 + jj + (na - (jj + 1))) cap5 = .slice A (La.take jj ++ La.drop (jj + 1)).length c ∧ Acs W5 A (La.take jj ++ La.drop (jj + 1))) := by
              have h1 := O5.out
              rw [List.nil_append, ← flatA_append] at h1
              obtain ⟨h2, A, c, e, _, ha⟩ := ownA_view h1 (fun t ht => by
                obtain ⟨i, hi⟩ := List.getElem?_of_mem (show t ∈ La by
                  rcases List.mem_append.1 ht with h | h
                  · exact List.mem_of_mem_take h
                  · exact List.mem_of_mem_drop h)
                obtain ⟨_, _, _, _, hs⟩ := HACS.out i t hi
                exact hs.stay (Ext.trans X.out (HEXT.out _ Ec.out)))
              rw [h2] at e
              exact ⟨A, c, by rw [h2]; exact e, ha⟩
            obtain ⟨A6, c6, he6, ha6⟩ := HCB.out
            have CB : Hid (∀ V, Ext W5 V → Calls Try.prog 20 #[.slice A5 (0 + jj + (na - (jj + 1))) cap5] V fun e w' => e = .returned (.bool (decide (mayF ((La.take jj ++ La.drop (jj + 1)).map At.x)))) ∧ Ext V w') := fun V h => by
              rw [he6]
              have hmem : ∀ t ∈ La.take jj ++ La.drop (jj + 1), t ∈ La := fun t ht => by
                rcases List.mem_append.1 ht with h | h
                · exact List.mem_of_mem_take h
                · exact List.mem_of_mem_drop h
              refine may_any A6 c6 _ V (by have := HLL.out; rw [List.length_append, List.length_take, List.length_drop]; omega) (fun t ht => (HMEM.out t (hmem t ht)).1) (fun t ht => (HMEM.out t (hmem t ht)).2) (ha6.stay h)
            have X5 : Hid (Ext wa W5) := Ext.trans X.out (HEXT.out _ Ec.out)
            clear HCB he6 ha6 HNW1 HNW2 HMADE HOWN0 E29 Ea Eb
            clear CB
            go_wp2_with (go_at_call 10; (with_reducible refine (CT.out _).mono ?_); rintro e w6 ⟨rfl, hx⟩; have X6 := Lib.hid hx; clear hx)
            try go_ret
            exact hD.out _ _ ⟨rfl, Ext.trans HXA.out (Ext.trans X5.out X6.out)⟩
          · have i1 : ¬ (jj : Int) + 1 < (na : Int) := by omega
            obtain ⟨wl, hwl⟩ : ∃ wl, wl = wr := ⟨_, rfl⟩
            subst hwl
            have HN0 : Hid (wl.heap.size = wl.drew.heap.size) := rfl
            have E29 : Hid (Frm (fun k => wl.heap.size ≤ k) wl wl.drew) := Frm.drew (Frm.refl _ _)
            have HEXT : Hid (∀ V, Frm (fun k => wl.heap.size ≤ k) wl V → Ext wl V) := fun V h => h.below (Nat.le_refl _) (fun k hk => by have hk' : wl.heap.size ≤ k := hk; have := HN0.out; have h2 : wl.drew.heap.size = wl.heap.size := rfl; omega)
            have HMADE : Hid ((wl.drew.alloc (.cells #[] 50)).ownsRow wl.heap.size 50 14 (.slice (some ⟨wl.heap.size, 0, none⟩) 0 0) 0 []) := by
              exact World.ownsRow_made (base := wl.heap.size) (e := 50) (size := 14) wl.drew #[] 0 (Nat.le_refl _) (Nat.zero_le _) rfl
            have HOWN0 : Hid (∀ k, some k = (Value.slice (some ⟨wl.heap.size, 0, none⟩) 0 0).ownBlock → wl.heap.size ≤ k) := fun k hk => by injection hk with hk; rw [hk]; exact Nat.le_refl _
            have HNW1 : Hid (∀ V, Ext wl.drew V → ∀ (k : Nat) (u : Value), (flatA (La.take jj))[k]? = some u → V.cell? (Addr.add ⟨ba, oa, none⟩ k) = some u) := fun V h k u hk => by
              rw [Go.WideShapes.add_plain]
              exact acs_flat ((HACS.out.take jj).stay (Ext.trans X.out (Ext.trans (Ext.drewR (Ext.refl wl)) h))) k u hk
            have HNW2 : Hid (∀ V, Ext wl V → ∀ (k : Nat) (u : Value), (flatA (La.drop (jj + 1)))[k]? = some u → V.cell? (Addr.add ⟨ba, B2, none⟩ k) = some u) := fun V h k u hk => by
              rw [Go.WideShapes.add_plain]
              have hne : La.drop (jj + 1) ≠ [] := fun e => by rw [e] at hk; simp [flatA] at hk
              rw [HB2N.out hne]
              exact acs_flat ((HACS.out.drop (jj + 1)).stay (Ext.trans X.out h)) k u hk
            go_wp2
            refine rz_begin (fun k => wl.heap.size ≤ k) [] (by kernel_rfl) ?_
            refine rz_take [3, 4, 9, 10] (i := 1) (v := ?_) rfl (by kernel_rfl) (by kernel_rfl) (by kernel_rfl) (by kernel_rfl) (by kernel_rfl) (by kernel_rfl) (fun _ _ _ h => h) (by rfl) ?_ ?_
            rotate_left
            · intro W hW; have hW0 := Frm.tr E29.out hW; clear hW; go_simp <;> with_reducible rfl
            try simp only [Act.put, List.setIfInBounds_toArray, List.set_cons_zero, List.set_cons_succ]
            refine rz_take [3, 4, 9, 10] (i := 2) (v := ?_) rfl (by kernel_rfl) (by kernel_rfl) (by kernel_rfl) (by kernel_rfl) (by kernel_rfl) (by kernel_rfl) (fun _ _ _ h => h) (by rfl) ?_ ?_
            rotate_left
            · intro W hW; have hW0 := Frm.tr E29.out hW; clear hW; go_simp <;> with_reducible rfl
            try simp only [Act.put, List.setIfInBounds_toArray, List.set_cons_zero, List.set_cons_succ]
            refine rz_take [4, 9, 10] (i := 3) (v := ?_) rfl (by kernel_rfl) (by kernel_rfl) (by kernel_rfl) (by kernel_rfl) (by kernel_rfl) (by kernel_rfl) (fun _ _ _ h => h) (by rfl) ?_ ?_
            rotate_left
            · intro W hW; have hW0 := Frm.tr E29.out hW; clear hW; go_simp <;> with_reducible rfl
            try simp only [Act.put, List.setIfInBounds_toArray, List.set_cons_zero, List.set_cons_succ]
            refine rz_take [8, 9, 10] (i := 5) (v := ?_) rfl (by kernel_rfl) (by kernel_rfl) (by kernel_rfl) (by kernel_rfl) (by kernel_rfl) (by kernel_rfl) (fun _ _ _ h => h) (by rfl) ?_ ?_
            rotate_left
            · intro W hW; have hW0 := Frm.tr E29.out hW; clear hW; go_simp <;> with_reducible rfl
            try simp only [Act.put, List.setIfInBounds_toArray, List.set_cons_zero, List.set_cons_succ]
            refine rz_take [7, 8, 9, 10] (i := 6) (v := ?_) rfl (by kernel_rfl) (by kernel_rfl) (by kernel_rfl) (by kernel_rfl) (by kernel_rfl) (by kernel_rfl) (fun _ _ _ h => h) (by rfl) ?_ ?_
            rotate_left
            · intro W hW; have hW0 := Frm.tr E29.out hW; clear hW; go_simp <;> with_reducible rfl
            try simp only [Act.put, List.setIfInBounds_toArray, List.set_cons_zero, List.set_cons_succ]
            refine rz_take [8, 9, 10] (i := 7) (v := ?_) rfl (by kernel_rfl) (by kernel_rfl) (by kernel_rfl) (by kernel_rfl) (by kernel_rfl) (by kernel_rfl) (fun _ _ _ h => h) (by rfl) ?_ ?_
            rotate_left
            · intro W hW; have hW0 := Frm.tr E29.out hW; clear hW; go_simp <;> with_reducible rfl
            try simp only [Act.put, List.setIfInBounds_toArray, List.set_cons_zero, List.set_cons_succ]
            refine rz_take [9, 10] (i := 8) (v := .slice (some ⟨ba, B2, none⟩) (na - (jj + 1)) (ca - (jj + 1))) rfl (by kernel_rfl) (by kernel_rfl) (by kernel_rfl) (by kernel_rfl) (by kernel_rfl) (by kernel_rfl) (fun _ _ _ h => h) (by rfl) ?_ ?_
            · intro W hW; have hW0 := Frm.tr E29.out hW; clear hW; go_simp; all_goals (first | done | (rw [HB2.out]; done) | (simp [HB2.out]; done) | (simp [HB2.out]; intro h9; omega))
            try simp only [Act.put, List.setIfInBounds_toArray, List.set_cons_zero, List.set_cons_succ]
            refine rz_call (i := 0) rfl (by kernel_rfl) (by rfl) (fun K hK => ?_)
            go_simp
            refine hK _ _ (Frm.of_alloc _ _ _) ?_; clear hK K
            have Ea := Lib.hid (Frm.tr E29.out (Frm.of_alloc wl.drew (.cells #[] 50) _))
            try simp only [Act.put, List.setIfInBounds_toArray, List.set_cons_zero, List.set_cons_succ]
            refine rz_call (i := 4) rfl (by kernel_rfl) (by rfl) (fun K hK => ?_)
            refine wp_append_wides (.tmp 166) (.tmp 169) 26 rfl wl.heap.size 50 _ 14 144 Try.underlying26 info_act rfl (by decide) (by decide) (.slice (some ⟨wl.heap.size, 0, none⟩) 0 0) 0 [] (by rfl) HMADE.out ⟨ba, oa, none⟩ jj ca (flatA (La.take jj)) (by rfl) HFL1.out (HNW1.out _ (Ext.alloc _ _)) flat_cells (by omega) (by show wl.heap.size ≤ (wl.alloc (.cells #[] 50)).heap.size; rw [World.size_alloc]; omega) ?_
            intro v2 W4 oo gg bb
            refine hK _ _ (Frm.of_grown gg (fun k hk => HOWN0.out k hk)) ?_; clear hK K
            have Eb := Lib.hid (Frm.tr Ea.out (Frm.of_grown gg (fun k hk => HOWN0.out k hk)))
            have O4 := Lib.hid oo
            obtain ⟨A4, cap4, hv4⟩ := own_shape oo
            subst hv4
            clear oo gg bb
            try simp only [Act.put, List.setIfInBounds_toArray, List.set_cons_zero, List.set_cons_succ]
            refine rz_call (i := 9) rfl (by kernel_rfl) (by rfl) (fun K hK => ?_)
            refine wp_append_wides (.tmp 170) (.tmp 174) 26 rfl wl.heap.size 50 _ 14 144 Try.underlying26 info_act rfl (by decide) (by decide) (.slice A4 (0 + jj) cap4) (0 + jj) ([] ++ flatA (La.take jj)) (by rfl) O4.out ⟨ba, B2, none⟩ (na - (jj + 1)) (ca - (jj + 1)) (flatA (La.drop (jj + 1))) (by rfl) HFL2.out (HNW2.out _ (HEXT.out _ Eb.out)) flat_cells (by omega) Eb.out.size ?_
            intro v2 W5 oo gg bb
            refine hK _ _ (Frm.of_grown gg (fun k hk => (O4.out.lt k hk.symm).1)) ?_; clear hK K
            have Ec := Lib.hid (Frm.tr Eb.out (Frm.of_grown gg (fun k hk => (O4.out.lt k hk.symm).1)))
            have O5 := Lib.hid oo
            obtain ⟨A5, cap5, hv5⟩ := own_shape oo
            subst hv5
            clear oo gg bb
            try simp only [Act.put, List.setIfInBounds_toArray, List.set_cons_zero, List.set_cons_succ]
            refine rz_take [] (i := 10) (v := ?_) rfl (by kernel_rfl) (by kernel_rfl) (by kernel_rfl) (by kernel_rfl) (by kernel_rfl) (by kernel_rfl) (fun _ _ _ h => h) (by rfl) ?_ ?_
            rotate_left
            · intro W hW; have hW0 := Frm.tr Ec.out hW; clear hW; go_simp <;> with_reducible rfl
            try simp only [Act.put, List.setIfInBounds_toArray, List.set_cons_zero, List.set_cons_succ]
            refine rz_done (by kernel_rfl) ?_ _
            have HCB : Hid (∃ A c, Value.slice A5 (0 + jj + (na - (jj + 1))) cap5 = .slice A (La.take jj ++ La.drop (jj + 1)).length c ∧ Acs W5 A (La.take jj ++ La.drop (jj + 1))) := by
              have h1 := O5.out
              rw [List.nil_append, ← flatA_append] at h1
              obtain ⟨h2, A, c, e, _, ha⟩ := ownA_view h1 (fun t ht => by
                obtain ⟨i, hi⟩ := List.getElem?_of_mem (show t ∈ La by
                  rcases List.mem_append.1 ht with h | h
                  · exact List.mem_of_mem_take h
                  · exact List.mem_of_mem_drop h)
                obtain ⟨_, _, _, _, hs⟩ := HACS.out i t hi
                exact hs.stay (Ext.trans X.out (HEXT.out _ Ec.out)))
              rw [h2] at e
              exact ⟨A, c, by rw [h2]; exact e, ha⟩
            obtain ⟨A6, c6, he6, ha6⟩ := HCB.out
            have CB : Hid (∀ V, Ext W5 V → Calls Try.prog 20 #[.slice A5 (0 + jj + (na - (jj + 1))) cap5] V fun e w' => e = .returned (.bool (decide (mayF ((La.take jj ++ La.drop (jj + 1)).map At.x)))) ∧ Ext V w') := fun V h => by
              rw [he6]
              have hmem : ∀ t ∈ La.take jj ++ La.drop (jj + 1), t ∈ La := fun t ht => by
                rcases List.mem_append.1 ht with h | h
                · exact List.mem_of_mem_take h
                · exact List.mem_of_mem_drop h
              refine may_any A6 c6 _ V (by have := HLL.out; rw [List.length_append, List.length_take, List.length_drop]; omega) (fun t ht => (HMEM.out t (hmem t ht)).1) (fun t ht => (HMEM.out t (hmem t ht)).2) (ha6.stay h)
            have X5 : Hid (Ext wa W5) := Ext.trans X.out (HEXT.out _ Ec.out)
            clear HCB he6 ha6 HNW1 HNW2 HMADE HOWN0 E29 Ea Eb
            clear CB
            go_wp2_with (go_at_call 10; (with_reducible refine (CT.out _).mono ?_); rintro e w6 ⟨rfl, hx⟩; have X6 := Lib.hid hx; clear hx)
            try go_ret
            exact hD.out _ _ ⟨rfl, Ext.trans HXA.out (Ext.trans X5.out X6.out)⟩
      | false =>
        have hscan0 := scanA_start (La.map At.x) ⟨xcl, xsq, false, xq, xr, xat⟩ jj
        have HS0 := Lib.hid hscan0
        clear hscan0
        go_wp2
        go_loopw [14, 15] (fun q i wr => ∃ (i0 : Nat), jj + 1 ≤ i0 ∧ i0 ≤ na ∧ i = .int .i64 i0 ∧ q = .bool (scanA (La.map At.x) ⟨xcl, xsq, false, xq, xr, xat⟩ jj i0) ∧ Hid (Ext wa wr)) (fun _ i _ => na - (intOf i).toNat)
        case atStart => exact ⟨jj + 1, by omega, by omega, by go_num, by rw [HS0.out], XL0.out⟩
        case round =>
          obtain ⟨i, hij, hin, rfl, rfl, X⟩ := hrel
          have z2 := cell_stay X.out HX2.out
          by_cases hlt : i < na
          · have i1 : (i : Int) < (na : Int) := by omega
            have i0 : (0 : Int) ≤ (i : Int) := by omega
            obtain ⟨yt, hyt⟩ : ∃ yt, La[i]? = some yt := ⟨_, List.getElem?_eq_getElem (by rw [HLL.out.2]; omega)⟩
            have hyx : (La.map At.x)[i]? = some yt.x := by rw [List.getElem?_map, hyt]; rfl
            have hyc : ∀ t, t < 14 → wa.cell? ⟨ba, oa + i * 14 + t, none⟩ = (acRow yt.x yt.A yt.cap)[t]? := by
              obtain ⟨b', o', e, hc, _⟩ := HACS.out i yt hyt
              injection e with e
              injection e with e1 e2
              subst e1 e2
              exact hc
            obtain ⟨⟨ycl, ysq, yans, yq, yr, yat⟩, yA, ycap⟩ := yt
            simp only at hyx
            have HSC := Lib.hid (scanA_step (x := ⟨xcl, xsq, false, xq, xr, xat⟩) hyx hij)
            have EW : Hid (Ext wr wr) := Ext.refl _
            have y0 : ∀ W, Ext wr W → W.cell? ⟨ba, oa + i * 14 + 0, none⟩ = some (.int .i64 ycl) := fun W h => cell_stay (Ext.trans X.out h) (hyc 0 (by decide))
            have y1 : ∀ W, Ext wr W → W.cell? ⟨ba, oa + i * 14 + 1, none⟩ = some (.int .i64 ysq) := fun W h => cell_stay (Ext.trans X.out h) (hyc 1 (by decide))
            have y2 : ∀ W, Ext wr W → W.cell? ⟨ba, oa + i * 14 + 2, none⟩ = some (.bool yans) := fun W h => cell_stay (Ext.trans X.out h) (hyc 2 (by decide))
            have z0 : ∀ W, Ext wr W → W.cell? ⟨ba, oa + jj * 14 + 0, none⟩ = some (.int .i64 xcl) := fun W h => cell_stay (Ext.trans X.out h) (Hid.out HX0)
            have z1 : ∀ W, Ext wr W → W.cell? ⟨ba, oa + jj * 14 + 1, none⟩ = some (.int .i64 xsq) := fun W h => cell_stay (Ext.trans X.out h) (Hid.out HX1)
            simp only [Nat.add_zero] at y0 z0
            clear hyc hyx hyt
            generalize hq : scanA (La.map At.x) ⟨xcl, xsq, false, xq, xr, xat⟩ jj i = q at *
            clear hq
            cases q with
            | true =>
              have hnew : scanA (La.map At.x) ⟨xcl, xsq, false, xq, xr, xat⟩ jj (i + 1) = true := by rw [HSC.out]; rfl
              have HNEW := Lib.hid hnew
              clear hnew
              go_wp2
              refine ext_begin (by kernel_rfl) ?_
              have EWd := Lib.hid (Ext.drewR EW.out)
              refine ext_take (i := 0) (v := ?_) rfl (by kernel_rfl) (by kernel_rfl) (by kernel_rfl) (fun _ _ _ h => h) (by rfl) ?_ ?_
              rotate_left
              · intro W hW; have hW0 := Ext.trans EWd.out hW; clear hW; go_simp <;> with_reducible rfl
              try simp only [Act.put, List.setIfInBounds_toArray, List.set_cons_zero, List.set_cons_succ]
              refine ext_take (i := 1) (v := ?_) rfl (by kernel_rfl) (by kernel_rfl) (by kernel_rfl) (fun _ _ _ h => h) (by rfl) ?_ ?_
              rotate_left
              · intro W hW; have hW0 := Ext.trans EWd.out hW; clear hW; go_simp <;> with_reducible rfl
              try simp only [Act.put, List.setIfInBounds_toArray, List.set_cons_zero, List.set_cons_succ]
              refine ext_skip (i := 2) rfl (by kernel_rfl) (by kernel_rfl) (by kernel_rfl) (fun _ _ _ h => h) (by rfl) ?_
              try simp only [Act.put, List.setIfInBounds_toArray, List.set_cons_zero, List.set_cons_succ]
              refine ext_skip (i := 3) rfl (by kernel_rfl) (by kernel_rfl) (by kernel_rfl) (fun _ _ _ h => h) (by rfl) ?_
              try simp only [Act.put, List.setIfInBounds_toArray, List.set_cons_zero, List.set_cons_succ]
              refine ext_skip (i := 4) rfl (by kernel_rfl) (by kernel_rfl) (by kernel_rfl) (fun _ _ _ h => h) (by rfl) ?_
              try simp only [Act.put, List.setIfInBounds_toArray, List.set_cons_zero, List.set_cons_succ]
              refine ext_skip (i := 5) rfl (by kernel_rfl) (by kernel_rfl) (by kernel_rfl) (fun _ _ _ h => h) (by rfl) ?_
              try simp only [Act.put, List.setIfInBounds_toArray, List.set_cons_zero, List.set_cons_succ]
              refine ext_skip (i := 6) rfl (by kernel_rfl) (by kernel_rfl) (by kernel_rfl) (fun _ _ _ h => h) (by rfl) ?_
              try simp only [Act.put, List.setIfInBounds_toArray, List.set_cons_zero, List.set_cons_succ]
              refine ext_skip (i := 7) rfl (by kernel_rfl) (by kernel_rfl) (by kernel_rfl) (fun _ _ _ h => h) (by rfl) ?_
              try simp only [Act.put, List.setIfInBounds_toArray, List.set_cons_zero, List.set_cons_succ]
              refine ext_skip (i := 8) rfl (by kernel_rfl) (by kernel_rfl) (by kernel_rfl) (fun _ _ _ h => h) (by rfl) ?_
              try simp only [Act.put, List.setIfInBounds_toArray, List.set_cons_zero, List.set_cons_succ]
              refine ext_skip (i := 9) rfl (by kernel_rfl) (by kernel_rfl) (by kernel_rfl) (fun _ _ _ h => h) (by rfl) ?_
              try simp only [Act.put, List.setIfInBounds_toArray, List.set_cons_zero, List.set_cons_succ]
              refine ext_skip (i := 10) rfl (by kernel_rfl) (by kernel_rfl) (by kernel_rfl) (fun _ _ _ h => h) (by rfl) ?_
              try simp only [Act.put, List.setIfInBounds_toArray, List.set_cons_zero, List.set_cons_succ]
              refine ext_skip (i := 11) rfl (by kernel_rfl) (by kernel_rfl) (by kernel_rfl) (fun _ _ _ h => h) (by rfl) ?_
              try simp only [Act.put, List.setIfInBounds_toArray, List.set_cons_zero, List.set_cons_succ]
              refine ext_skip (i := 12) rfl (by kernel_rfl) (by kernel_rfl) (by kernel_rfl) (fun _ _ _ h => h) (by rfl) ?_
              try simp only [Act.put, List.setIfInBounds_toArray, List.set_cons_zero, List.set_cons_succ]
              refine ext_skip (i := 13) rfl (by kernel_rfl) (by kernel_rfl) (by kernel_rfl) (fun _ _ _ h => h) (by rfl) ?_
              try simp only [Act.put, List.setIfInBounds_toArray, List.set_cons_zero, List.set_cons_succ]
              refine ext_skip (i := 14) rfl (by kernel_rfl) (by kernel_rfl) (by kernel_rfl) (fun _ _ _ h => h) (by rfl) ?_
              try simp only [Act.put, List.setIfInBounds_toArray, List.set_cons_zero, List.set_cons_succ]
              refine ext_skip (i := 15) rfl (by kernel_rfl) (by kernel_rfl) (by kernel_rfl) (fun _ _ _ h => h) (by rfl) ?_
              try simp only [Act.put, List.setIfInBounds_toArray, List.set_cons_zero, List.set_cons_succ]
              refine ext_skip (i := 16) rfl (by kernel_rfl) (by kernel_rfl) (by kernel_rfl) (fun _ _ _ h => h) (by rfl) ?_
              try simp only [Act.put, List.setIfInBounds_toArray, List.set_cons_zero, List.set_cons_succ]
              refine ext_skip (i := 17) rfl (by kernel_rfl) (by kernel_rfl) (by kernel_rfl) (fun _ _ _ h => h) (by rfl) ?_
              try simp only [Act.put, List.setIfInBounds_toArray, List.set_cons_zero, List.set_cons_succ]
              refine ext_skip (i := 18) rfl (by kernel_rfl) (by kernel_rfl) (by kernel_rfl) (fun _ _ _ h => h) (by rfl) ?_
              try simp only [Act.put, List.setIfInBounds_toArray, List.set_cons_zero, List.set_cons_succ]
              refine ext_skip (i := 19) rfl (by kernel_rfl) (by kernel_rfl) (by kernel_rfl) (fun _ _ _ h => h) (by rfl) ?_
              try simp only [Act.put, List.setIfInBounds_toArray, List.set_cons_zero, List.set_cons_succ]
              refine ext_skip (i := 20) rfl (by kernel_rfl) (by kernel_rfl) (by kernel_rfl) (fun _ _ _ h => h) (by rfl) ?_
              try simp only [Act.put, List.setIfInBounds_toArray, List.set_cons_zero, List.set_cons_succ]
              refine ext_skip (i := 21) rfl (by kernel_rfl) (by kernel_rfl) (by kernel_rfl) (fun _ _ _ h => h) (by rfl) ?_
              try simp only [Act.put, List.setIfInBounds_toArray, List.set_cons_zero, List.set_cons_succ]
              refine ext_skip (i := 22) rfl (by kernel_rfl) (by kernel_rfl) (by kernel_rfl) (fun _ _ _ h => h) (by rfl) ?_
              try simp only [Act.put, List.setIfInBounds_toArray, List.set_cons_zero, List.set_cons_succ]
              refine ext_skip (i := 23) rfl (by kernel_rfl) (by kernel_rfl) (by kernel_rfl) (fun _ _ _ h => h) (by rfl) ?_
              try simp only [Act.put, List.setIfInBounds_toArray, List.set_cons_zero, List.set_cons_succ]
              refine ext_skip (i := 24) rfl (by kernel_rfl) (by kernel_rfl) (by kernel_rfl) (fun _ _ _ h => h) (by rfl) ?_
              try simp only [Act.put, List.setIfInBounds_toArray, List.set_cons_zero, List.set_cons_succ]
              refine ext_skip (i := 25) rfl (by kernel_rfl) (by kernel_rfl) (by kernel_rfl) (fun _ _ _ h => h) (by rfl) ?_
              try simp only [Act.put, List.setIfInBounds_toArray, List.set_cons_zero, List.set_cons_succ]
              refine ext_skip (i := 26) rfl (by kernel_rfl) (by kernel_rfl) (by kernel_rfl) (fun _ _ _ h => h) (by rfl) ?_
              try simp only [Act.put, List.setIfInBounds_toArray, List.set_cons_zero, List.set_cons_succ]
              refine ext_skip (i := 27) rfl (by kernel_rfl) (by kernel_rfl) (by kernel_rfl) (fun _ _ _ h => h) (by rfl) ?_
              try simp only [Act.put, List.setIfInBounds_toArray, List.set_cons_zero, List.set_cons_succ]
              refine ext_skip (i := 28) rfl (by kernel_rfl) (by kernel_rfl) (by kernel_rfl) (fun _ _ _ h => h) (by rfl) ?_
              try simp only [Act.put, List.setIfInBounds_toArray, List.set_cons_zero, List.set_cons_succ]
              refine ext_skip (i := 29) rfl (by kernel_rfl) (by kernel_rfl) (by kernel_rfl) (fun _ _ _ h => h) (by rfl) ?_
              try simp only [Act.put, List.setIfInBounds_toArray, List.set_cons_zero, List.set_cons_succ]
              refine ext_skip (i := 30) rfl (by kernel_rfl) (by kernel_rfl) (by kernel_rfl) (fun _ _ _ h => h) (by rfl) ?_
              try simp only [Act.put, List.setIfInBounds_toArray, List.set_cons_zero, List.set_cons_succ]
              refine ext_skip (i := 31) rfl (by kernel_rfl) (by kernel_rfl) (by kernel_rfl) (fun _ _ _ h => h) (by rfl) ?_
              try simp only [Act.put, List.setIfInBounds_toArray, List.set_cons_zero, List.set_cons_succ]
              refine ext_skip (i := 32) rfl (by kernel_rfl) (by kernel_rfl) (by kernel_rfl) (fun _ _ _ h => h) (by rfl) ?_
              try simp only [Act.put, List.setIfInBounds_toArray, List.set_cons_zero, List.set_cons_succ]
              refine ext_take (i := 33) (v := ?_) rfl (by kernel_rfl) (by kernel_rfl) (by kernel_rfl) (fun _ _ _ h => h) (by rfl) ?_ ?_
              rotate_left
              · intro W hW; have hW0 := Ext.trans EWd.out hW; clear hW; go_simp <;> with_reducible rfl
              try simp only [Act.put, List.setIfInBounds_toArray, List.set_cons_zero, List.set_cons_succ]
              refine ext_take (i := 34) (v := ?_) rfl (by kernel_rfl) (by kernel_rfl) (by kernel_rfl) (fun _ _ _ h => h) (by rfl) ?_ ?_
              rotate_left
              · intro W hW; have hW0 := Ext.trans EWd.out hW; clear hW; go_simp <;> with_reducible rfl
              try simp only [Act.put, List.setIfInBounds_toArray, List.set_cons_zero, List.set_cons_succ]
              refine wpAnyH_done (by kernel_rfl) ?_ _
              go_wp2
              go_roundw
              case rel => exact ⟨i + 1, by omega, by omega, by go_num, by first | (rw [HNEW.out]), Ext.trans X.out EWd.out⟩
              case measure => simp [intOf]; omega
            | false =>
              have HNEW : Hid (scanA (La.map At.x) ⟨xcl, xsq, false, xq, xr, xat⟩ jj (i + 1) = (yans && decide (ycl = xcl) && decide (ysq = xsq))) := by (show _ = _); rw [HSC.out]; rfl
              cases yans with
              | false =>
                go_wp2
                refine ext_begin (by kernel_rfl) ?_
                have EWd := Lib.hid (Ext.drewR EW.out)
                refine ext_take (i := 0) (v := ?_) rfl (by kernel_rfl) (by kernel_rfl) (by kernel_rfl) (fun _ _ _ h => h) (by rfl) ?_ ?_
                rotate_left
                · intro W hW; have hW0 := Ext.trans EWd.out hW; clear hW; go_simp <;> with_reducible rfl
                try simp only [Act.put, List.setIfInBounds_toArray, List.set_cons_zero, List.set_cons_succ]
                refine ext_take (i := 1) (v := ?_) rfl (by kernel_rfl) (by kernel_rfl) (by kernel_rfl) (fun _ _ _ h => h) (by rfl) ?_ ?_
                rotate_left
                · intro W hW; have hW0 := Ext.trans EWd.out hW; clear hW; go_simp <;> with_reducible rfl
                try simp only [Act.put, List.setIfInBounds_toArray, List.set_cons_zero, List.set_cons_succ]
                refine ext_take (i := 2) (v := ?_) rfl (by kernel_rfl) (by kernel_rfl) (by kernel_rfl) (fun _ _ _ h => h) (by rfl) ?_ ?_
                rotate_left
                · intro W hW; have hW0 := Ext.trans EWd.out hW; clear hW; go_simp <;> with_reducible rfl
                try simp only [Act.put, List.setIfInBounds_toArray, List.set_cons_zero, List.set_cons_succ]
                refine ext_take (i := 3) (v := ?_) rfl (by kernel_rfl) (by kernel_rfl) (by kernel_rfl) (fun _ _ _ h => h) (by rfl) ?_ ?_
                rotate_left
                · intro W hW; have hW0 := Ext.trans EWd.out hW; clear hW; go_simp <;> with_reducible rfl
                try simp only [Act.put, List.setIfInBounds_toArray, List.set_cons_zero, List.set_cons_succ]
                refine ext_take (i := 4) (v := ?_) rfl (by kernel_rfl) (by kernel_rfl) (by kernel_rfl) (fun _ _ _ h => h) (by rfl) ?_ ?_
                rotate_left
                · intro W hW; have hW0 := Ext.trans EWd.out hW; clear hW; go_simp <;> with_reducible rfl
                try simp only [Act.put, List.setIfInBounds_toArray, List.set_cons_zero, List.set_cons_succ]
                refine ext_take (i := 5) (v := ?_) rfl (by kernel_rfl) (by kernel_rfl) (by kernel_rfl) (fun _ _ _ h => h) (by rfl) ?_ ?_
                rotate_left
                · intro W hW; have hW0 := Ext.trans EWd.out hW; clear hW; go_simp <;> with_reducible rfl
                try simp only [Act.put, List.setIfInBounds_toArray, List.set_cons_zero, List.set_cons_succ]
                refine ext_take (i := 6) (v := ?_) rfl (by kernel_rfl) (by kernel_rfl) (by kernel_rfl) (fun _ _ _ h => h) (by rfl) ?_ ?_
                rotate_left
                · intro W hW; have hW0 := Ext.trans EWd.out hW; clear hW; go_simp <;> with_reducible rfl
                try simp only [Act.put, List.setIfInBounds_toArray, List.set_cons_zero, List.set_cons_succ]
                refine ext_take (i := 7) (v := ?_) rfl (by kernel_rfl) (by kernel_rfl) (by kernel_rfl) (fun _ _ _ h => h) (by rfl) ?_ ?_
                rotate_left
                · intro W hW; have hW0 := Ext.trans EWd.out hW; clear hW; go_simp <;> with_reducible rfl
                try simp only [Act.put, List.setIfInBounds_toArray, List.set_cons_zero, List.set_cons_succ]
                refine ext_skip (i := 8) rfl (by kernel_rfl) (by kernel_rfl) (by kernel_rfl) (fun _ _ _ h => h) (by rfl) ?_
                try simp only [Act.put, List.setIfInBounds_toArray, List.set_cons_zero, List.set_cons_succ]
                refine ext_skip (i := 9) rfl (by kernel_rfl) (by kernel_rfl) (by kernel_rfl) (fun _ _ _ h => h) (by rfl) ?_
                try simp only [Act.put, List.setIfInBounds_toArray, List.set_cons_zero, List.set_cons_succ]
                refine ext_skip (i := 10) rfl (by kernel_rfl) (by kernel_rfl) (by kernel_rfl) (fun _ _ _ h => h) (by rfl) ?_
                try simp only [Act.put, List.setIfInBounds_toArray, List.set_cons_zero, List.set_cons_succ]
                refine ext_skip (i := 11) rfl (by kernel_rfl) (by kernel_rfl) (by kernel_rfl) (fun _ _ _ h => h) (by rfl) ?_
                try simp only [Act.put, List.setIfInBounds_toArray, List.set_cons_zero, List.set_cons_succ]
                refine ext_skip (i := 12) rfl (by kernel_rfl) (by kernel_rfl) (by kernel_rfl) (fun _ _ _ h => h) (by rfl) ?_
                try simp only [Act.put, List.setIfInBounds_toArray, List.set_cons_zero, List.set_cons_succ]
                refine ext_skip (i := 13) rfl (by kernel_rfl) (by kernel_rfl) (by kernel_rfl) (fun _ _ _ h => h) (by rfl) ?_
                try simp only [Act.put, List.setIfInBounds_toArray, List.set_cons_zero, List.set_cons_succ]
                refine ext_skip (i := 14) rfl (by kernel_rfl) (by kernel_rfl) (by kernel_rfl) (fun _ _ _ h => h) (by rfl) ?_
                try simp only [Act.put, List.setIfInBounds_toArray, List.set_cons_zero, List.set_cons_succ]
                refine ext_skip (i := 15) rfl (by kernel_rfl) (by kernel_rfl) (by kernel_rfl) (fun _ _ _ h => h) (by rfl) ?_
                try simp only [Act.put, List.setIfInBounds_toArray, List.set_cons_zero, List.set_cons_succ]
                refine ext_skip (i := 16) rfl (by kernel_rfl) (by kernel_rfl) (by kernel_rfl) (fun _ _ _ h => h) (by rfl) ?_
                try simp only [Act.put, List.setIfInBounds_toArray, List.set_cons_zero, List.set_cons_succ]
                refine ext_skip (i := 17) rfl (by kernel_rfl) (by kernel_rfl) (by kernel_rfl) (fun _ _ _ h => h) (by rfl) ?_
                try simp only [Act.put, List.setIfInBounds_toArray, List.set_cons_zero, List.set_cons_succ]
                refine ext_skip (i := 18) rfl (by kernel_rfl) (by kernel_rfl) (by kernel_rfl) (fun _ _ _ h => h) (by rfl) ?_
                try simp only [Act.put, List.setIfInBounds_toArray, List.set_cons_zero, List.set_cons_succ]
                refine ext_take (i := 19) (v := ?_) rfl (by kernel_rfl) (by kernel_rfl) (by kernel_rfl) (fun _ _ _ h => h) (by rfl) ?_ ?_
                rotate_left
                · intro W hW; have hW0 := Ext.trans EWd.out hW; clear hW; go_simp <;> with_reducible rfl
                try simp only [Act.put, List.setIfInBounds_toArray, List.set_cons_zero, List.set_cons_succ]
                refine ext_take (i := 20) (v := ?_) rfl (by kernel_rfl) (by kernel_rfl) (by kernel_rfl) (fun _ _ _ h => h) (by rfl) ?_ ?_
                rotate_left
                · intro W hW; have hW0 := Ext.trans EWd.out hW; clear hW; go_simp <;> with_reducible rfl
                try simp only [Act.put, List.setIfInBounds_toArray, List.set_cons_zero, List.set_cons_succ]
                refine ext_skip (i := 21) rfl (by kernel_rfl) (by kernel_rfl) (by kernel_rfl) (fun _ _ _ h => h) (by rfl) ?_
                try simp only [Act.put, List.setIfInBounds_toArray, List.set_cons_zero, List.set_cons_succ]
                refine ext_skip (i := 22) rfl (by kernel_rfl) (by kernel_rfl) (by kernel_rfl) (fun _ _ _ h => h) (by rfl) ?_
                try simp only [Act.put, List.setIfInBounds_toArray, List.set_cons_zero, List.set_cons_succ]
                refine ext_skip (i := 23) rfl (by kernel_rfl) (by kernel_rfl) (by kernel_rfl) (fun _ _ _ h => h) (by rfl) ?_
                try simp only [Act.put, List.setIfInBounds_toArray, List.set_cons_zero, List.set_cons_succ]
                refine ext_skip (i := 24) rfl (by kernel_rfl) (by kernel_rfl) (by kernel_rfl) (fun _ _ _ h => h) (by rfl) ?_
                try simp only [Act.put, List.setIfInBounds_toArray, List.set_cons_zero, List.set_cons_succ]
                refine ext_skip (i := 25) rfl (by kernel_rfl) (by kernel_rfl) (by kernel_rfl) (fun _ _ _ h => h) (by rfl) ?_
                try simp only [Act.put, List.setIfInBounds_toArray, List.set_cons_zero, List.set_cons_succ]
                refine ext_skip (i := 26) rfl (by kernel_rfl) (by kernel_rfl) (by kernel_rfl) (fun _ _ _ h => h) (by rfl) ?_
                try simp only [Act.put, List.setIfInBounds_toArray, List.set_cons_zero, List.set_cons_succ]
                refine ext_skip (i := 27) rfl (by kernel_rfl) (by kernel_rfl) (by kernel_rfl) (fun _ _ _ h => h) (by rfl) ?_
                try simp only [Act.put, List.setIfInBounds_toArray, List.set_cons_zero, List.set_cons_succ]
                refine ext_skip (i := 28) rfl (by kernel_rfl) (by kernel_rfl) (by kernel_rfl) (fun _ _ _ h => h) (by rfl) ?_
                try simp only [Act.put, List.setIfInBounds_toArray, List.set_cons_zero, List.set_cons_succ]
                refine ext_skip (i := 29) rfl (by kernel_rfl) (by kernel_rfl) (by kernel_rfl) (fun _ _ _ h => h) (by rfl) ?_
                try simp only [Act.put, List.setIfInBounds_toArray, List.set_cons_zero, List.set_cons_succ]
                refine ext_skip (i := 30) rfl (by kernel_rfl) (by kernel_rfl) (by kernel_rfl) (fun _ _ _ h => h) (by rfl) ?_
                try simp only [Act.put, List.setIfInBounds_toArray, List.set_cons_zero, List.set_cons_succ]
                refine ext_skip (i := 31) rfl (by kernel_rfl) (by kernel_rfl) (by kernel_rfl) (fun _ _ _ h => h) (by rfl) ?_
                try simp only [Act.put, List.setIfInBounds_toArray, List.set_cons_zero, List.set_cons_succ]
                refine ext_take (i := 32) (v := ?_) rfl (by kernel_rfl) (by kernel_rfl) (by kernel_rfl) (fun _ _ _ h => h) (by rfl) ?_ ?_
                rotate_left
                · intro W hW; have hW0 := Ext.trans EWd.out hW; clear hW; go_simp <;> with_reducible rfl
                try simp only [Act.put, List.setIfInBounds_toArray, List.set_cons_zero, List.set_cons_succ]
                refine ext_take (i := 33) (v := ?_) rfl (by kernel_rfl) (by kernel_rfl) (by kernel_rfl) (fun _ _ _ h => h) (by rfl) ?_ ?_
                rotate_left
                · intro W hW; have hW0 := Ext.trans EWd.out hW; clear hW; go_simp <;> with_reducible rfl
                try simp only [Act.put, List.setIfInBounds_toArray, List.set_cons_zero, List.set_cons_succ]
                refine ext_take (i := 34) (v := ?_) rfl (by kernel_rfl) (by kernel_rfl) (by kernel_rfl) (fun _ _ _ h => h) (by rfl) ?_ ?_
                rotate_left
                · intro W hW; have hW0 := Ext.trans EWd.out hW; clear hW; go_simp <;> with_reducible rfl
                try simp only [Act.put, List.setIfInBounds_toArray, List.set_cons_zero, List.set_cons_succ]
                refine wpAnyH_done (by kernel_rfl) ?_ _
                go_wp2
                go_roundw
                case rel => exact ⟨i + 1, by omega, by omega, by go_num, by first | (rw [HNEW.out]; rfl), Ext.trans X.out EWd.out⟩
                case measure => simp [intOf]; omega
              | true =>
                by_cases hcl : ycl = xcl
                · subst hcl
                  by_cases hsq : ysq = xsq
                  · subst hsq
                    go_wp2
                    refine ext_begin (by kernel_rfl) ?_
                    have EWd := Lib.hid (Ext.drewR EW.out)
                    refine ext_take (i := 0) (v := ?_) rfl (by kernel_rfl) (by kernel_rfl) (by kernel_rfl) (fun _ _ _ h => h) (by rfl) ?_ ?_
                    rotate_left
                    · intro W hW; have hW0 := Ext.trans EWd.out hW; clear hW; go_simp <;> with_reducible rfl
                    try simp only [Act.put, List.setIfInBounds_toArray, List.set_cons_zero, List.set_cons_succ]
                    refine ext_take (i := 1) (v := ?_) rfl (by kernel_rfl) (by kernel_rfl) (by kernel_rfl) (fun _ _ _ h => h) (by rfl) ?_ ?_
                    rotate_left
                    · intro W hW; have hW0 := Ext.trans EWd.out hW; clear hW; go_simp <;> with_reducible rfl
                    try simp only [Act.put, List.setIfInBounds_toArray, List.set_cons_zero, List.set_cons_succ]
                    refine ext_take (i := 2) (v := ?_) rfl (by kernel_rfl) (by kernel_rfl) (by kernel_rfl) (fun _ _ _ h => h) (by rfl) ?_ ?_
                    rotate_left
                    · intro W hW; have hW0 := Ext.trans EWd.out hW; clear hW; go_simp <;> with_reducible rfl
                    try simp only [Act.put, List.setIfInBounds_toArray, List.set_cons_zero, List.set_cons_succ]
                    refine ext_take (i := 3) (v := ?_) rfl (by kernel_rfl) (by kernel_rfl) (by kernel_rfl) (fun _ _ _ h => h) (by rfl) ?_ ?_
                    rotate_left
                    · intro W hW; have hW0 := Ext.trans EWd.out hW; clear hW; go_simp <;> with_reducible rfl
                    try simp only [Act.put, List.setIfInBounds_toArray, List.set_cons_zero, List.set_cons_succ]
                    refine ext_take (i := 4) (v := ?_) rfl (by kernel_rfl) (by kernel_rfl) (by kernel_rfl) (fun _ _ _ h => h) (by rfl) ?_ ?_
                    rotate_left
                    · intro W hW; have hW0 := Ext.trans EWd.out hW; clear hW; go_simp <;> with_reducible rfl
                    try simp only [Act.put, List.setIfInBounds_toArray, List.set_cons_zero, List.set_cons_succ]
                    refine ext_take (i := 5) (v := ?_) rfl (by kernel_rfl) (by kernel_rfl) (by kernel_rfl) (fun _ _ _ h => h) (by rfl) ?_ ?_
                    rotate_left
                    · intro W hW; have hW0 := Ext.trans EWd.out hW; clear hW; go_simp <;> with_reducible rfl
                    try simp only [Act.put, List.setIfInBounds_toArray, List.set_cons_zero, List.set_cons_succ]
                    refine ext_take (i := 6) (v := ?_) rfl (by kernel_rfl) (by kernel_rfl) (by kernel_rfl) (fun _ _ _ h => h) (by rfl) ?_ ?_
                    rotate_left
                    · intro W hW; have hW0 := Ext.trans EWd.out hW; clear hW; go_simp <;> with_reducible rfl
                    try simp only [Act.put, List.setIfInBounds_toArray, List.set_cons_zero, List.set_cons_succ]
                    refine ext_take (i := 7) (v := ?_) rfl (by kernel_rfl) (by kernel_rfl) (by kernel_rfl) (fun _ _ _ h => h) (by rfl) ?_ ?_
                    rotate_left
                    · intro W hW; have hW0 := Ext.trans EWd.out hW; clear hW; go_simp <;> with_reducible rfl
                    try simp only [Act.put, List.setIfInBounds_toArray, List.set_cons_zero, List.set_cons_succ]
                    refine ext_take (i := 8) (v := ?_) rfl (by kernel_rfl) (by kernel_rfl) (by kernel_rfl) (fun _ _ _ h => h) (by rfl) ?_ ?_
                    rotate_left
                    · intro W hW; have hW0 := Ext.trans EWd.out hW; clear hW; go_simp <;> with_reducible rfl
                    try simp only [Act.put, List.setIfInBounds_toArray, List.set_cons_zero, List.set_cons_succ]
                    refine ext_take (i := 9) (v := ?_) rfl (by kernel_rfl) (by kernel_rfl) (by kernel_rfl) (fun _ _ _ h => h) (by rfl) ?_ ?_
                    rotate_left
                    · intro W hW; have hW0 := Ext.trans EWd.out hW; clear hW; go_simp <;> with_reducible rfl
                    try simp only [Act.put, List.setIfInBounds_toArray, List.set_cons_zero, List.set_cons_succ]
                    refine ext_take (i := 10) (v := ?_) rfl (by kernel_rfl) (by kernel_rfl) (by kernel_rfl) (fun _ _ _ h => h) (by rfl) ?_ ?_
                    rotate_left
                    · intro W hW; have hW0 := Ext.trans EWd.out hW; clear hW; go_simp <;> with_reducible rfl
                    try simp only [Act.put, List.setIfInBounds_toArray, List.set_cons_zero, List.set_cons_succ]
                    refine ext_take (i := 11) (v := ?_) rfl (by kernel_rfl) (by kernel_rfl) (by kernel_rfl) (fun _ _ _ h => h) (by rfl) ?_ ?_
                    rotate_left
                    · intro W hW; have hW0 := Ext.trans EWd.out hW; clear hW; go_simp <;> with_reducible rfl
                    try simp only [Act.put, List.setIfInBounds_toArray, List.set_cons_zero, List.set_cons_succ]
                    refine ext_take (i := 12) (v := ?_) rfl (by kernel_rfl) (by kernel_rfl) (by kernel_rfl) (fun _ _ _ h => h) (by rfl) ?_ ?_
                    rotate_left
                    · intro W hW; have hW0 := Ext.trans EWd.out hW; clear hW; go_simp <;> with_reducible rfl
                    try simp only [Act.put, List.setIfInBounds_toArray, List.set_cons_zero, List.set_cons_succ]
                    refine ext_take (i := 13) (v := ?_) rfl (by kernel_rfl) (by kernel_rfl) (by kernel_rfl) (fun _ _ _ h => h) (by rfl) ?_ ?_
                    rotate_left
                    · intro W hW; have hW0 := Ext.trans EWd.out hW; clear hW; go_simp <;> with_reducible rfl
                    try simp only [Act.put, List.setIfInBounds_toArray, List.set_cons_zero, List.set_cons_succ]
                    refine ext_take (i := 14) (v := ?_) rfl (by kernel_rfl) (by kernel_rfl) (by kernel_rfl) (fun _ _ _ h => h) (by rfl) ?_ ?_
                    rotate_left
                    · intro W hW; have hW0 := Ext.trans EWd.out hW; clear hW; go_simp <;> with_reducible rfl
                    try simp only [Act.put, List.setIfInBounds_toArray, List.set_cons_zero, List.set_cons_succ]
                    refine ext_take (i := 15) (v := ?_) rfl (by kernel_rfl) (by kernel_rfl) (by kernel_rfl) (fun _ _ _ h => h) (by rfl) ?_ ?_
                    rotate_left
                    · intro W hW; have hW0 := Ext.trans EWd.out hW; clear hW; go_simp <;> with_reducible rfl
                    try simp only [Act.put, List.setIfInBounds_toArray, List.set_cons_zero, List.set_cons_succ]
                    refine ext_take (i := 16) (v := ?_) rfl (by kernel_rfl) (by kernel_rfl) (by kernel_rfl) (fun _ _ _ h => h) (by rfl) ?_ ?_
                    rotate_left
                    · intro W hW; have hW0 := Ext.trans EWd.out hW; clear hW; go_simp <;> with_reducible rfl
                    try simp only [Act.put, List.setIfInBounds_toArray, List.set_cons_zero, List.set_cons_succ]
                    refine ext_take (i := 17) (v := ?_) rfl (by kernel_rfl) (by kernel_rfl) (by kernel_rfl) (fun _ _ _ h => h) (by rfl) ?_ ?_
                    rotate_left
                    · intro W hW; have hW0 := Ext.trans EWd.out hW; clear hW; go_simp <;> with_reducible rfl
                    try simp only [Act.put, List.setIfInBounds_toArray, List.set_cons_zero, List.set_cons_succ]
                    refine ext_take (i := 18) (v := .bool true) rfl (by kernel_rfl) (by kernel_rfl) (by kernel_rfl) (fun _ _ _ h => h) (by rfl) ?_ ?_
                    · intro W hW; have hW0 := Ext.trans EWd.out hW; clear hW; go_simp; all_goals (first | done | rfl | simp)
                    try simp only [Act.put, List.setIfInBounds_toArray, List.set_cons_zero, List.set_cons_succ]
                    refine ext_take (i := 19) (v := ?_) rfl (by kernel_rfl) (by kernel_rfl) (by kernel_rfl) (fun _ _ _ h => h) (by rfl) ?_ ?_
                    rotate_left
                    · intro W hW; have hW0 := Ext.trans EWd.out hW; clear hW; go_simp <;> with_reducible rfl
                    try simp only [Act.put, List.setIfInBounds_toArray, List.set_cons_zero, List.set_cons_succ]
                    refine ext_take (i := 20) (v := ?_) rfl (by kernel_rfl) (by kernel_rfl) (by kernel_rfl) (fun _ _ _ h => h) (by rfl) ?_ ?_
                    rotate_left
                    · intro W hW; have hW0 := Ext.trans EWd.out hW; clear hW; go_simp <;> with_reducible rfl
                    try simp only [Act.put, List.setIfInBounds_toArray, List.set_cons_zero, List.set_cons_succ]
                    refine ext_take (i := 21) (v := ?_) rfl (by kernel_rfl) (by kernel_rfl) (by kernel_rfl) (fun _ _ _ h => h) (by rfl) ?_ ?_
                    rotate_left
                    · intro W hW; have hW0 := Ext.trans EWd.out hW; clear hW; go_simp <;> with_reducible rfl
                    try simp only [Act.put, List.setIfInBounds_toArray, List.set_cons_zero, List.set_cons_succ]
                    refine ext_take (i := 22) (v := ?_) rfl (by kernel_rfl) (by kernel_rfl) (by kernel_rfl) (fun _ _ _ h => h) (by rfl) ?_ ?_
                    rotate_left
                    · intro W hW; have hW0 := Ext.trans EWd.out hW; clear hW; go_simp <;> with_reducible rfl
                    try simp only [Act.put, List.setIfInBounds_toArray, List.set_cons_zero, List.set_cons_succ]
                    refine ext_take (i := 23) (v := ?_) rfl (by kernel_rfl) (by kernel_rfl) (by kernel_rfl) (fun _ _ _ h => h) (by rfl) ?_ ?_
                    rotate_left
                    · intro W hW; have hW0 := Ext.trans EWd.out hW; clear hW; go_simp <;> with_reducible rfl
                    try simp only [Act.put, List.setIfInBounds_toArray, List.set_cons_zero, List.set_cons_succ]
                    refine ext_take (i := 24) (v := ?_) rfl (by kernel_rfl) (by kernel_rfl) (by kernel_rfl) (fun _ _ _ h => h) (by rfl) ?_ ?_
                    rotate_left
                    · intro W hW; have hW0 := Ext.trans EWd.out hW; clear hW; go_simp <;> with_reducible rfl
                    try simp only [Act.put, List.setIfInBounds_toArray, List.set_cons_zero, List.set_cons_succ]
                    refine ext_take (i := 25) (v := ?_) rfl (by kernel_rfl) (by kernel_rfl) (by kernel_rfl) (fun _ _ _ h => h) (by rfl) ?_ ?_
                    rotate_left
                    · intro W hW; have hW0 := Ext.trans EWd.out hW; clear hW; go_simp <;> with_reducible rfl
                    try simp only [Act.put, List.setIfInBounds_toArray, List.set_cons_zero, List.set_cons_succ]
                    refine ext_take (i := 26) (v := ?_) rfl (by kernel_rfl) (by kernel_rfl) (by kernel_rfl) (fun _ _ _ h => h) (by rfl) ?_ ?_
                    rotate_left
                    · intro W hW; have hW0 := Ext.trans EWd.out hW; clear hW; go_simp <;> with_reducible rfl
                    try simp only [Act.put, List.setIfInBounds_toArray, List.set_cons_zero, List.set_cons_succ]
                    refine ext_take (i := 27) (v := ?_) rfl (by kernel_rfl) (by kernel_rfl) (by kernel_rfl) (fun _ _ _ h => h) (by rfl) ?_ ?_
                    rotate_left
                    · intro W hW; have hW0 := Ext.trans EWd.out hW; clear hW; go_simp <;> with_reducible rfl
                    try simp only [Act.put, List.setIfInBounds_toArray, List.set_cons_zero, List.set_cons_succ]
                    refine ext_take (i := 28) (v := ?_) rfl (by kernel_rfl) (by kernel_rfl) (by kernel_rfl) (fun _ _ _ h => h) (by rfl) ?_ ?_
                    rotate_left
                    · intro W hW; have hW0 := Ext.trans EWd.out hW; clear hW; go_simp <;> with_reducible rfl
                    try simp only [Act.put, List.setIfInBounds_toArray, List.set_cons_zero, List.set_cons_succ]
                    refine ext_take (i := 29) (v := ?_) rfl (by kernel_rfl) (by kernel_rfl) (by kernel_rfl) (fun _ _ _ h => h) (by rfl) ?_ ?_
                    rotate_left
                    · intro W hW; have hW0 := Ext.trans EWd.out hW; clear hW; go_simp <;> with_reducible rfl
                    try simp only [Act.put, List.setIfInBounds_toArray, List.set_cons_zero, List.set_cons_succ]
                    refine ext_take (i := 30) (v := ?_) rfl (by kernel_rfl) (by kernel_rfl) (by kernel_rfl) (fun _ _ _ h => h) (by rfl) ?_ ?_
                    rotate_left
                    · intro W hW; have hW0 := Ext.trans EWd.out hW; clear hW; go_simp <;> with_reducible rfl
                    try simp only [Act.put, List.setIfInBounds_toArray, List.set_cons_zero, List.set_cons_succ]
                    refine ext_take (i := 31) (v := .bool true) rfl (by kernel_rfl) (by kernel_rfl) (by kernel_rfl) (fun _ _ _ h => h) (by rfl) ?_ ?_
                    · intro W hW; have hW0 := Ext.trans EWd.out hW; clear hW; go_simp; all_goals (first | done | rfl | simp)
                    try simp only [Act.put, List.setIfInBounds_toArray, List.set_cons_zero, List.set_cons_succ]
                    refine ext_take (i := 32) (v := ?_) rfl (by kernel_rfl) (by kernel_rfl) (by kernel_rfl) (fun _ _ _ h => h) (by rfl) ?_ ?_
                    rotate_left
                    · intro W hW; have hW0 := Ext.trans EWd.out hW; clear hW; go_simp <;> with_reducible rfl
                    try simp only [Act.put, List.setIfInBounds_toArray, List.set_cons_zero, List.set_cons_succ]
                    refine ext_take (i := 33) (v := ?_) rfl (by kernel_rfl) (by kernel_rfl) (by kernel_rfl) (fun _ _ _ h => h) (by rfl) ?_ ?_
                    rotate_left
                    · intro W hW; have hW0 := Ext.trans EWd.out hW; clear hW; go_simp <;> with_reducible rfl
                    try simp only [Act.put, List.setIfInBounds_toArray, List.set_cons_zero, List.set_cons_succ]
                    refine ext_take (i := 34) (v := ?_) rfl (by kernel_rfl) (by kernel_rfl) (by kernel_rfl) (fun _ _ _ h => h) (by rfl) ?_ ?_
                    rotate_left
                    · intro W hW; have hW0 := Ext.trans EWd.out hW; clear hW; go_simp <;> with_reducible rfl
                    try simp only [Act.put, List.setIfInBounds_toArray, List.set_cons_zero, List.set_cons_succ]
                    refine wpAnyH_done (by kernel_rfl) ?_ _
                    go_wp2
                    go_roundw
                    case rel => exact ⟨i + 1, by omega, by omega, by go_num, by first | (rw [HNEW.out]; simp), Ext.trans X.out EWd.out⟩
                    case measure => simp [intOf]; omega
                  · have hsqb : (ysq == xsq) = false := by simp [hsq]
                    have HSQ := Lib.hid hsq
                    clear hsq
                    go_wp2
                    refine ext_begin (by kernel_rfl) ?_
                    have EWd := Lib.hid (Ext.drewR EW.out)
                    refine ext_take (i := 0) (v := ?_) rfl (by kernel_rfl) (by kernel_rfl) (by kernel_rfl) (fun _ _ _ h => h) (by rfl) ?_ ?_
                    rotate_left
                    · intro W hW; have hW0 := Ext.trans EWd.out hW; clear hW; go_simp <;> with_reducible rfl
                    try simp only [Act.put, List.setIfInBounds_toArray, List.set_cons_zero, List.set_cons_succ]
                    refine ext_take (i := 1) (v := ?_) rfl (by kernel_rfl) (by kernel_rfl) (by kernel_rfl) (fun _ _ _ h => h) (by rfl) ?_ ?_
                    rotate_left
                    · intro W hW; have hW0 := Ext.trans EWd.out hW; clear hW; go_simp <;> with_reducible rfl
                    try simp only [Act.put, List.setIfInBounds_toArray, List.set_cons_zero, List.set_cons_succ]
                    refine ext_take (i := 2) (v := ?_) rfl (by kernel_rfl) (by kernel_rfl) (by kernel_rfl) (fun _ _ _ h => h) (by rfl) ?_ ?_
                    rotate_left
                    · intro W hW; have hW0 := Ext.trans EWd.out hW; clear hW; go_simp <;> with_reducible rfl
                    try simp only [Act.put, List.setIfInBounds_toArray, List.set_cons_zero, List.set_cons_succ]
                    refine ext_take (i := 3) (v := ?_) rfl (by kernel_rfl) (by kernel_rfl) (by kernel_rfl) (fun _ _ _ h => h) (by rfl) ?_ ?_
                    rotate_left
                    · intro W hW; have hW0 := Ext.trans EWd.out hW; clear hW; go_simp <;> with_reducible rfl
                    try simp only [Act.put, List.setIfInBounds_toArray, List.set_cons_zero, List.set_cons_succ]
                    refine ext_take (i := 4) (v := ?_) rfl (by kernel_rfl) (by kernel_rfl) (by kernel_rfl) (fun _ _ _ h => h) (by rfl) ?_ ?_
                    rotate_left
                    · intro W hW; have hW0 := Ext.trans EWd.out hW; clear hW; go_simp <;> with_reducible rfl
                    try simp only [Act.put, List.setIfInBounds_toArray, List.set_cons_zero, List.set_cons_succ]
                    refine ext_take (i := 5) (v := ?_) rfl (by kernel_rfl) (by kernel_rfl) (by kernel_rfl) (fun _ _ _ h => h) (by rfl) ?_ ?_
                    rotate_left
                    · intro W hW; have hW0 := Ext.trans EWd.out hW; clear hW; go_simp <;> with_reducible rfl
                    try simp only [Act.put, List.setIfInBounds_toArray, List.set_cons_zero, List.set_cons_succ]
                    refine ext_take (i := 6) (v := ?_) rfl (by kernel_rfl) (by kernel_rfl) (by kernel_rfl) (fun _ _ _ h => h) (by rfl) ?_ ?_
                    rotate_left
                    · intro W hW; have hW0 := Ext.trans EWd.out hW; clear hW; go_simp <;> with_reducible rfl
                    try simp only [Act.put, List.setIfInBounds_toArray, List.set_cons_zero, List.set_cons_succ]
                    refine ext_take (i := 7) (v := ?_) rfl (by kernel_rfl) (by kernel_rfl) (by kernel_rfl) (fun _ _ _ h => h) (by rfl) ?_ ?_
                    rotate_left
                    · intro W hW; have hW0 := Ext.trans EWd.out hW; clear hW; go_simp <;> with_reducible rfl
                    try simp only [Act.put, List.setIfInBounds_toArray, List.set_cons_zero, List.set_cons_succ]
                    refine ext_take (i := 8) (v := ?_) rfl (by kernel_rfl) (by kernel_rfl) (by kernel_rfl) (fun _ _ _ h => h) (by rfl) ?_ ?_
                    rotate_left
                    · intro W hW; have hW0 := Ext.trans EWd.out hW; clear hW; go_simp <;> with_reducible rfl
                    try simp only [Act.put, List.setIfInBounds_toArray, List.set_cons_zero, List.set_cons_succ]
                    refine ext_take (i := 9) (v := ?_) rfl (by kernel_rfl) (by kernel_rfl) (by kernel_rfl) (fun _ _ _ h => h) (by rfl) ?_ ?_
                    rotate_left
                    · intro W hW; have hW0 := Ext.trans EWd.out hW; clear hW; go_simp <;> with_reducible rfl
                    try simp only [Act.put, List.setIfInBounds_toArray, List.set_cons_zero, List.set_cons_succ]
                    refine ext_take (i := 10) (v := ?_) rfl (by kernel_rfl) (by kernel_rfl) (by kernel_rfl) (fun _ _ _ h => h) (by rfl) ?_ ?_
                    rotate_left
                    · intro W hW; have hW0 := Ext.trans EWd.out hW; clear hW; go_simp <;> with_reducible rfl
                    try simp only [Act.put, List.setIfInBounds_toArray, List.set_cons_zero, List.set_cons_succ]
                    refine ext_take (i := 11) (v := ?_) rfl (by kernel_rfl) (by kernel_rfl) (by kernel_rfl) (fun _ _ _ h => h) (by rfl) ?_ ?_
                    rotate_left
                    · intro W hW; have hW0 := Ext.trans EWd.out hW; clear hW; go_simp <;> with_reducible rfl
                    try simp only [Act.put, List.setIfInBounds_toArray, List.set_cons_zero, List.set_cons_succ]
                    refine ext_take (i := 12) (v := ?_) rfl (by kernel_rfl) (by kernel_rfl) (by kernel_rfl) (fun _ _ _ h => h) (by rfl) ?_ ?_
                    rotate_left
                    · intro W hW; have hW0 := Ext.trans EWd.out hW; clear hW; go_simp <;> with_reducible rfl
                    try simp only [Act.put, List.setIfInBounds_toArray, List.set_cons_zero, List.set_cons_succ]
                    refine ext_take (i := 13) (v := ?_) rfl (by kernel_rfl) (by kernel_rfl) (by kernel_rfl) (fun _ _ _ h => h) (by rfl) ?_ ?_
                    rotate_left
                    · intro W hW; have hW0 := Ext.trans EWd.out hW; clear hW; go_simp <;> with_reducible rfl
                    try simp only [Act.put, List.setIfInBounds_toArray, List.set_cons_zero, List.set_cons_succ]
                    refine ext_take (i := 14) (v := ?_) rfl (by kernel_rfl) (by kernel_rfl) (by kernel_rfl) (fun _ _ _ h => h) (by rfl) ?_ ?_
                    rotate_left
                    · intro W hW; have hW0 := Ext.trans EWd.out hW; clear hW; go_simp <;> with_reducible rfl
                    try simp only [Act.put, List.setIfInBounds_toArray, List.set_cons_zero, List.set_cons_succ]
                    refine ext_take (i := 15) (v := ?_) rfl (by kernel_rfl) (by kernel_rfl) (by kernel_rfl) (fun _ _ _ h => h) (by rfl) ?_ ?_
                    rotate_left
                    · intro W hW; have hW0 := Ext.trans EWd.out hW; clear hW; go_simp <;> with_reducible rfl
                    try simp only [Act.put, List.setIfInBounds_toArray, List.set_cons_zero, List.set_cons_succ]
                    refine ext_take (i := 16) (v := ?_) rfl (by kernel_rfl) (by kernel_rfl) (by kernel_rfl) (fun _ _ _ h => h) (by rfl) ?_ ?_
                    rotate_left
                    · intro W hW; have hW0 := Ext.trans EWd.out hW; clear hW; go_simp <;> with_reducible rfl
                    try simp only [Act.put, List.setIfInBounds_toArray, List.set_cons_zero, List.set_cons_succ]
                    refine ext_take (i := 17) (v := ?_) rfl (by kernel_rfl) (by kernel_rfl) (by kernel_rfl) (fun _ _ _ h => h) (by rfl) ?_ ?_
                    rotate_left
                    · intro W hW; have hW0 := Ext.trans EWd.out hW; clear hW; go_simp <;> with_reducible rfl
                    try simp only [Act.put, List.setIfInBounds_toArray, List.set_cons_zero, List.set_cons_succ]
                    refine ext_take (i := 18) (v := .bool true) rfl (by kernel_rfl) (by kernel_rfl) (by kernel_rfl) (fun _ _ _ h => h) (by rfl) ?_ ?_
                    · intro W hW; have hW0 := Ext.trans EWd.out hW; clear hW; go_simp; all_goals (first | done | rfl | simp)
                    try simp only [Act.put, List.setIfInBounds_toArray, List.set_cons_zero, List.set_cons_succ]
                    refine ext_take (i := 19) (v := ?_) rfl (by kernel_rfl) (by kernel_rfl) (by kernel_rfl) (fun _ _ _ h => h) (by rfl) ?_ ?_
                    rotate_left
                    · intro W hW; have hW0 := Ext.trans EWd.out hW; clear hW; go_simp <;> with_reducible rfl
                    try simp only [Act.put, List.setIfInBounds_toArray, List.set_cons_zero, List.set_cons_succ]
                    refine ext_take (i := 20) (v := ?_) rfl (by kernel_rfl) (by kernel_rfl) (by kernel_rfl) (fun _ _ _ h => h) (by rfl) ?_ ?_
                    rotate_left
                    · intro W hW; have hW0 := Ext.trans EWd.out hW; clear hW; go_simp <;> with_reducible rfl
                    try simp only [Act.put, List.setIfInBounds_toArray, List.set_cons_zero, List.set_cons_succ]
                    refine ext_take (i := 21) (v := ?_) rfl (by kernel_rfl) (by kernel_rfl) (by kernel_rfl) (fun _ _ _ h => h) (by rfl) ?_ ?_
                    rotate_left
                    · intro W hW; have hW0 := Ext.trans EWd.out hW; clear hW; go_simp <;> with_reducible rfl
                    try simp only [Act.put, List.setIfInBounds_toArray, List.set_cons_zero, List.set_cons_succ]
                    refine ext_take (i := 22) (v := ?_) rfl (by kernel_rfl) (by kernel_rfl) (by kernel_rfl) (fun _ _ _ h => h) (by rfl) ?_ ?_
                    rotate_left
                    · intro W hW; have hW0 := Ext.trans EWd.out hW; clear hW; go_simp <;> with_reducible rfl
                    try simp only [Act.put, List.setIfInBounds_toArray, List.set_cons_zero, List.set_cons_succ]
                    refine ext_take (i := 23) (v := ?_) rfl (by kernel_rfl) (by kernel_rfl) (by kernel_rfl) (fun _ _ _ h => h) (by rfl) ?_ ?_
                    rotate_left
                    · intro W hW; have hW0 := Ext.trans EWd.out hW; clear hW; go_simp <;> with_reducible rfl
                    try simp only [Act.put, List.setIfInBounds_toArray, List.set_cons_zero, List.set_cons_succ]
                    refine ext_take (i := 24) (v := ?_) rfl (by kernel_rfl) (by kernel_rfl) (by kernel_rfl) (fun _ _ _ h => h) (by rfl) ?_ ?_
                    rotate_left
                    · intro W hW; have hW0 := Ext.trans EWd.out hW; clear hW; go_simp <;> with_reducible rfl
                    try simp only [Act.put, List.setIfInBounds_toArray, List.set_cons_zero, List.set_cons_succ]
                    refine ext_take (i := 25) (v := ?_) rfl (by kernel_rfl) (by kernel_rfl) (by kernel_rfl) (fun _ _ _ h => h) (by rfl) ?_ ?_
                    rotate_left
                    · intro W hW; have hW0 := Ext.trans EWd.out hW; clear hW; go_simp <;> with_reducible rfl
                    try simp only [Act.put, List.setIfInBounds_toArray, List.set_cons_zero, List.set_cons_succ]
                    refine ext_take (i := 26) (v := ?_) rfl (by kernel_rfl) (by kernel_rfl) (by kernel_rfl) (fun _ _ _ h => h) (by rfl) ?_ ?_
                    rotate_left
                    · intro W hW; have hW0 := Ext.trans EWd.out hW; clear hW; go_simp <;> with_reducible rfl
                    try simp only [Act.put, List.setIfInBounds_toArray, List.set_cons_zero, List.set_cons_succ]
                    refine ext_take (i := 27) (v := ?_) rfl (by kernel_rfl) (by kernel_rfl) (by kernel_rfl) (fun _ _ _ h => h) (by rfl) ?_ ?_
                    rotate_left
                    · intro W hW; have hW0 := Ext.trans EWd.out hW; clear hW; go_simp <;> with_reducible rfl
                    try simp only [Act.put, List.setIfInBounds_toArray, List.set_cons_zero, List.set_cons_succ]
                    refine ext_take (i := 28) (v := ?_) rfl (by kernel_rfl) (by kernel_rfl) (by kernel_rfl) (fun _ _ _ h => h) (by rfl) ?_ ?_
                    rotate_left
                    · intro W hW; have hW0 := Ext.trans EWd.out hW; clear hW; go_simp <;> with_reducible rfl
                    try simp only [Act.put, List.setIfInBounds_toArray, List.set_cons_zero, List.set_cons_succ]
                    refine ext_take (i := 29) (v := ?_) rfl (by kernel_rfl) (by kernel_rfl) (by kernel_rfl) (fun _ _ _ h => h) (by rfl) ?_ ?_
                    rotate_left
                    · intro W hW; have hW0 := Ext.trans EWd.out hW; clear hW; go_simp <;> with_reducible rfl
                    try simp only [Act.put, List.setIfInBounds_toArray, List.set_cons_zero, List.set_cons_succ]
                    refine ext_take (i := 30) (v := ?_) rfl (by kernel_rfl) (by kernel_rfl) (by kernel_rfl) (fun _ _ _ h => h) (by rfl) ?_ ?_
                    rotate_left
                    · intro W hW; have hW0 := Ext.trans EWd.out hW; clear hW; go_simp <;> with_reducible rfl
                    try simp only [Act.put, List.setIfInBounds_toArray, List.set_cons_zero, List.set_cons_succ]
                    refine ext_take (i := 31) (v := .bool false) rfl (by kernel_rfl) (by kernel_rfl) (by kernel_rfl) (fun _ _ _ h => h) (by rfl) ?_ ?_
                    · intro W hW; have hW0 := Ext.trans EWd.out hW; clear hW; go_simp; all_goals (first | done | rfl | (simp [HSQ.out]; done))
                    try simp only [Act.put, List.setIfInBounds_toArray, List.set_cons_zero, List.set_cons_succ]
                    refine ext_take (i := 32) (v := ?_) rfl (by kernel_rfl) (by kernel_rfl) (by kernel_rfl) (fun _ _ _ h => h) (by rfl) ?_ ?_
                    rotate_left
                    · intro W hW; have hW0 := Ext.trans EWd.out hW; clear hW; go_simp <;> with_reducible rfl
                    try simp only [Act.put, List.setIfInBounds_toArray, List.set_cons_zero, List.set_cons_succ]
                    refine ext_take (i := 33) (v := ?_) rfl (by kernel_rfl) (by kernel_rfl) (by kernel_rfl) (fun _ _ _ h => h) (by rfl) ?_ ?_
                    rotate_left
                    · intro W hW; have hW0 := Ext.trans EWd.out hW; clear hW; go_simp <;> with_reducible rfl
                    try simp only [Act.put, List.setIfInBounds_toArray, List.set_cons_zero, List.set_cons_succ]
                    refine ext_take (i := 34) (v := ?_) rfl (by kernel_rfl) (by kernel_rfl) (by kernel_rfl) (fun _ _ _ h => h) (by rfl) ?_ ?_
                    rotate_left
                    · intro W hW; have hW0 := Ext.trans EWd.out hW; clear hW; go_simp <;> with_reducible rfl
                    try simp only [Act.put, List.setIfInBounds_toArray, List.set_cons_zero, List.set_cons_succ]
                    refine wpAnyH_done (by kernel_rfl) ?_ _
                    go_wp2
                    go_roundw
                    case rel => exact ⟨i + 1, by omega, by omega, by go_num, by first | (rw [HNEW.out]; simp [HSQ.out]), Ext.trans X.out EWd.out⟩
                    case measure => simp [intOf]; omega
                · have hclb : (ycl == xcl) = false := by simp [hcl]
                  have HCL := Lib.hid hcl
                  clear hcl
                  go_wp2
                  refine ext_begin (by kernel_rfl) ?_
                  have EWd := Lib.hid (Ext.drewR EW.out)
                  refine ext_take (i := 0) (v := ?_) rfl (by kernel_rfl) (by kernel_rfl) (by kernel_rfl) (fun _ _ _ h => h) (by rfl) ?_ ?_
                  rotate_left
                  · intro W hW; have hW0 := Ext.trans EWd.out hW; clear hW; go_simp <;> with_reducible rfl
                  try simp only [Act.put, List.setIfInBounds_toArray, List.set_cons_zero, List.set_cons_succ]
                  refine ext_take (i := 1) (v := ?_) rfl (by kernel_rfl) (by kernel_rfl) (by kernel_rfl) (fun _ _ _ h => h) (by rfl) ?_ ?_
                  rotate_left
                  · intro W hW; have hW0 := Ext.trans EWd.out hW; clear hW; go_simp <;> with_reducible rfl
                  try simp only [Act.put, List.setIfInBounds_toArray, List.set_cons_zero, List.set_cons_succ]
                  refine ext_take (i := 2) (v := ?_) rfl (by kernel_rfl) (by kernel_rfl) (by kernel_rfl) (fun _ _ _ h => h) (by rfl) ?_ ?_
                  rotate_left
                  · intro W hW; have hW0 := Ext.trans EWd.out hW; clear hW; go_simp <;> with_reducible rfl
                  try simp only [Act.put, List.setIfInBounds_toArray, List.set_cons_zero, List.set_cons_succ]
                  refine ext_take (i := 3) (v := ?_) rfl (by kernel_rfl) (by kernel_rfl) (by kernel_rfl) (fun _ _ _ h => h) (by rfl) ?_ ?_
                  rotate_left
                  · intro W hW; have hW0 := Ext.trans EWd.out hW; clear hW; go_simp <;> with_reducible rfl
                  try simp only [Act.put, List.setIfInBounds_toArray, List.set_cons_zero, List.set_cons_succ]
                  refine ext_take (i := 4) (v := ?_) rfl (by kernel_rfl) (by kernel_rfl) (by kernel_rfl) (fun _ _ _ h => h) (by rfl) ?_ ?_
                  rotate_left
                  · intro W hW; have hW0 := Ext.trans EWd.out hW; clear hW; go_simp <;> with_reducible rfl
                  try simp only [Act.put, List.setIfInBounds_toArray, List.set_cons_zero, List.set_cons_succ]
                  refine ext_take (i := 5) (v := ?_) rfl (by kernel_rfl) (by kernel_rfl) (by kernel_rfl) (fun _ _ _ h => h) (by rfl) ?_ ?_
                  rotate_left
                  · intro W hW; have hW0 := Ext.trans EWd.out hW; clear hW; go_simp <;> with_reducible rfl
                  try simp only [Act.put, List.setIfInBounds_toArray, List.set_cons_zero, List.set_cons_succ]
                  refine ext_take (i := 6) (v := ?_) rfl (by kernel_rfl) (by kernel_rfl) (by kernel_rfl) (fun _ _ _ h => h) (by rfl) ?_ ?_
                  rotate_left
                  · intro W hW; have hW0 := Ext.trans EWd.out hW; clear hW; go_simp <;> with_reducible rfl
                  try simp only [Act.put, List.setIfInBounds_toArray, List.set_cons_zero, List.set_cons_succ]
                  refine ext_take (i := 7) (v := ?_) rfl (by kernel_rfl) (by kernel_rfl) (by kernel_rfl) (fun _ _ _ h => h) (by rfl) ?_ ?_
                  rotate_left
                  · intro W hW; have hW0 := Ext.trans EWd.out hW; clear hW; go_simp <;> with_reducible rfl
                  try simp only [Act.put, List.setIfInBounds_toArray, List.set_cons_zero, List.set_cons_succ]
                  refine ext_take (i := 8) (v := ?_) rfl (by kernel_rfl) (by kernel_rfl) (by kernel_rfl) (fun _ _ _ h => h) (by rfl) ?_ ?_
                  rotate_left
                  · intro W hW; have hW0 := Ext.trans EWd.out hW; clear hW; go_simp <;> with_reducible rfl
                  try simp only [Act.put, List.setIfInBounds_toArray, List.set_cons_zero, List.set_cons_succ]
                  refine ext_take (i := 9) (v := ?_) rfl (by kernel_rfl) (by kernel_rfl) (by kernel_rfl) (fun _ _ _ h => h) (by rfl) ?_ ?_
                  rotate_left
                  · intro W hW; have hW0 := Ext.trans EWd.out hW; clear hW; go_simp <;> with_reducible rfl
                  try simp only [Act.put, List.setIfInBounds_toArray, List.set_cons_zero, List.set_cons_succ]
                  refine ext_take (i := 10) (v := ?_) rfl (by kernel_rfl) (by kernel_rfl) (by kernel_rfl) (fun _ _ _ h => h) (by rfl) ?_ ?_
                  rotate_left
                  · intro W hW; have hW0 := Ext.trans EWd.out hW; clear hW; go_simp <;> with_reducible rfl
                  try simp only [Act.put, List.setIfInBounds_toArray, List.set_cons_zero, List.set_cons_succ]
                  refine ext_take (i := 11) (v := ?_) rfl (by kernel_rfl) (by kernel_rfl) (by kernel_rfl) (fun _ _ _ h => h) (by rfl) ?_ ?_
                  rotate_left
                  · intro W hW; have hW0 := Ext.trans EWd.out hW; clear hW; go_simp <;> with_reducible rfl
                  try simp only [Act.put, List.setIfInBounds_toArray, List.set_cons_zero, List.set_cons_succ]
                  refine ext_take (i := 12) (v := ?_) rfl (by kernel_rfl) (by kernel_rfl) (by kernel_rfl) (fun _ _ _ h => h) (by rfl) ?_ ?_
                  rotate_left
                  · intro W hW; have hW0 := Ext.trans EWd.out hW; clear hW; go_simp <;> with_reducible rfl
                  try simp only [Act.put, List.setIfInBounds_toArray, List.set_cons_zero, List.set_cons_succ]
                  refine ext_take (i := 13) (v := ?_) rfl (by kernel_rfl) (by kernel_rfl) (by kernel_rfl) (fun _ _ _ h => h) (by rfl) ?_ ?_
                  rotate_left
                  · intro W hW; have hW0 := Ext.trans EWd.out hW; clear hW; go_simp <;> with_reducible rfl
                  try simp only [Act.put, List.setIfInBounds_toArray, List.set_cons_zero, List.set_cons_succ]
                  refine ext_take (i := 14) (v := ?_) rfl (by kernel_rfl) (by kernel_rfl) (by kernel_rfl) (fun _ _ _ h => h) (by rfl) ?_ ?_
                  rotate_left
                  · intro W hW; have hW0 := Ext.trans EWd.out hW; clear hW; go_simp <;> with_reducible rfl
                  try simp only [Act.put, List.setIfInBounds_toArray, List.set_cons_zero, List.set_cons_succ]
                  refine ext_take (i := 15) (v := ?_) rfl (by kernel_rfl) (by kernel_rfl) (by kernel_rfl) (fun _ _ _ h => h) (by rfl) ?_ ?_
                  rotate_left
                  · intro W hW; have hW0 := Ext.trans EWd.out hW; clear hW; go_simp <;> with_reducible rfl
                  try simp only [Act.put, List.setIfInBounds_toArray, List.set_cons_zero, List.set_cons_succ]
                  refine ext_take (i := 16) (v := ?_) rfl (by kernel_rfl) (by kernel_rfl) (by kernel_rfl) (fun _ _ _ h => h) (by rfl) ?_ ?_
                  rotate_left
                  · intro W hW; have hW0 := Ext.trans EWd.out hW; clear hW; go_simp <;> with_reducible rfl
                  try simp only [Act.put, List.setIfInBounds_toArray, List.set_cons_zero, List.set_cons_succ]
                  refine ext_take (i := 17) (v := ?_) rfl (by kernel_rfl) (by kernel_rfl) (by kernel_rfl) (fun _ _ _ h => h) (by rfl) ?_ ?_
                  rotate_left
                  · intro W hW; have hW0 := Ext.trans EWd.out hW; clear hW; go_simp <;> with_reducible rfl
                  try simp only [Act.put, List.setIfInBounds_toArray, List.set_cons_zero, List.set_cons_succ]
                  refine ext_take (i := 18) (v := .bool false) rfl (by kernel_rfl) (by kernel_rfl) (by kernel_rfl) (fun _ _ _ h => h) (by rfl) ?_ ?_
                  · intro W hW; have hW0 := Ext.trans EWd.out hW; clear hW; go_simp; all_goals (first | done | rfl | (simp [HCL.out]; done))
                  try simp only [Act.put, List.setIfInBounds_toArray, List.set_cons_zero, List.set_cons_succ]
                  refine ext_take (i := 19) (v := ?_) rfl (by kernel_rfl) (by kernel_rfl) (by kernel_rfl) (fun _ _ _ h => h) (by rfl) ?_ ?_
                  rotate_left
                  · intro W hW; have hW0 := Ext.trans EWd.out hW; clear hW; go_simp <;> with_reducible rfl
                  try simp only [Act.put, List.setIfInBounds_toArray, List.set_cons_zero, List.set_cons_succ]
                  refine ext_take (i := 20) (v := ?_) rfl (by kernel_rfl) (by kernel_rfl) (by kernel_rfl) (fun _ _ _ h => h) (by rfl) ?_ ?_
                  rotate_left
                  · intro W hW; have hW0 := Ext.trans EWd.out hW; clear hW; go_simp <;> with_reducible rfl
                  try simp only [Act.put, List.setIfInBounds_toArray, List.set_cons_zero, List.set_cons_succ]
                  refine ext_skip (i := 21) rfl (by kernel_rfl) (by kernel_rfl) (by kernel_rfl) (fun _ _ _ h => h) (by rfl) ?_
                  try simp only [Act.put, List.setIfInBounds_toArray, List.set_cons_zero, List.set_cons_succ]
                  refine ext_skip (i := 22) rfl (by kernel_rfl) (by kernel_rfl) (by kernel_rfl) (fun _ _ _ h => h) (by rfl) ?_
                  try simp only [Act.put, List.setIfInBounds_toArray, List.set_cons_zero, List.set_cons_succ]
                  refine ext_skip (i := 23) rfl (by kernel_rfl) (by kernel_rfl) (by kernel_rfl) (fun _ _ _ h => h) (by rfl) ?_
                  try simp only [Act.put, List.setIfInBounds_toArray, List.set_cons_zero, List.set_cons_succ]
                  refine ext_skip (i := 24) rfl (by kernel_rfl) (by kernel_rfl) (by kernel_rfl) (fun _ _ _ h => h) (by rfl) ?_
                  try simp only [Act.put, List.setIfInBounds_toArray, List.set_cons_zero, List.set_cons_succ]
                  refine ext_skip (i := 25) rfl (by kernel_rfl) (by kernel_rfl) (by kernel_rfl) (fun _ _ _ h => h) (by rfl) ?_
                  try simp only [Act.put, List.setIfInBounds_toArray, List.set_cons_zero, List.set_cons_succ]
                  refine ext_skip (i := 26) rfl (by kernel_rfl) (by kernel_rfl) (by kernel_rfl) (fun _ _ _ h => h) (by rfl) ?_
                  try simp only [Act.put, List.setIfInBounds_toArray, List.set_cons_zero, List.set_cons_succ]
                  refine ext_skip (i := 27) rfl (by kernel_rfl) (by kernel_rfl) (by kernel_rfl) (fun _ _ _ h => h) (by rfl) ?_
                  try simp only [Act.put, List.setIfInBounds_toArray, List.set_cons_zero, List.set_cons_succ]
                  refine ext_skip (i := 28) rfl (by kernel_rfl) (by kernel_rfl) (by kernel_rfl) (fun _ _ _ h => h) (by rfl) ?_
                  try simp only [Act.put, List.setIfInBounds_toArray, List.set_cons_zero, List.set_cons_succ]
                  refine ext_skip (i := 29) rfl (by kernel_rfl) (by kernel_rfl) (by kernel_rfl) (fun _ _ _ h => h) (by rfl) ?_
                  try simp only [Act.put, List.setIfInBounds_toArray, List.set_cons_zero, List.set_cons_succ]
                  refine ext_skip (i := 30) rfl (by kernel_rfl) (by kernel_rfl) (by kernel_rfl) (fun _ _ _ h => h) (by rfl) ?_
                  try simp only [Act.put, List.setIfInBounds_toArray, List.set_cons_zero, List.set_cons_succ]
                  refine ext_skip (i := 31) rfl (by kernel_rfl) (by kernel_rfl) (by kernel_rfl) (fun _ _ _ h => h) (by rfl) ?_
                  try simp only [Act.put, List.setIfInBounds_toArray, List.set_cons_zero, List.set_cons_succ]
                  refine ext_take (i := 32) (v := ?_) rfl (by kernel_rfl) (by kernel_rfl) (by kernel_rfl) (fun _ _ _ h => h) (by rfl) ?_ ?_
                  rotate_left
                  · intro W hW; have hW0 := Ext.trans EWd.out hW; clear hW; go_simp <;> with_reducible rfl
                  try simp only [Act.put, List.setIfInBounds_toArray, List.set_cons_zero, List.set_cons_succ]
                  refine ext_take (i := 33) (v := ?_) rfl (by kernel_rfl) (by kernel_rfl) (by kernel_rfl) (fun _ _ _ h => h) (by rfl) ?_ ?_
                  rotate_left
                  · intro W hW; have hW0 := Ext.trans EWd.out hW; clear hW; go_simp <;> with_reducible rfl
                  try simp only [Act.put, List.setIfInBounds_toArray, List.set_cons_zero, List.set_cons_succ]
                  refine ext_take (i := 34) (v := ?_) rfl (by kernel_rfl) (by kernel_rfl) (by kernel_rfl) (fun _ _ _ h => h) (by rfl) ?_ ?_
                  rotate_left
                  · intro W hW; have hW0 := Ext.trans EWd.out hW; clear hW; go_simp <;> with_reducible rfl
                  try simp only [Act.put, List.setIfInBounds_toArray, List.set_cons_zero, List.set_cons_succ]
                  refine wpAnyH_done (by kernel_rfl) ?_ _
                  go_wp2
                  go_roundw
                  case rel => exact ⟨i + 1, by omega, by omega, by go_num, by first | (rw [HNEW.out]; simp [HCL.out]), Ext.trans X.out EWd.out⟩
                  case measure => simp [intOf]; omega
          · have i1 : ¬ (i : Int) < (na : Int) := by omega
            have hin2 : i = na := by omega
            have HNMAYQ : Hid (scanA (La.map At.x) ⟨xcl, xsq, false, xq, xr, xat⟩ jj i = true → ¬ mayF ((La.map At.x).take jj ++ (La.map At.x).drop (jj + 1))) := fun h => scanA_all HXX.out rfl HMAYL.out (by rw [List.length_map, HLL.out.2, ← hin2]; exact h)
            clear hin2
            generalize hq : scanA (La.map At.x) ⟨xcl, xsq, false, xq, xr, xat⟩ jj i = q at *
            clear hq
            obtain ⟨wl, hwl⟩ : ∃ wl, wl = wr := ⟨_, rfl⟩
            subst hwl
            cases q with
            | true =>
              have HNMAY := Lib.hid (HNMAYQ.out rfl)
              clear HNMAYQ
              have HN0 : Hid (wl.heap.size = wl.drew.heap.size) := rfl
              have E29 : Hid (Frm (fun k => wl.heap.size ≤ k) wl wl.drew) := Frm.drew (Frm.refl _ _)
              have HEXT : Hid (∀ V, Frm (fun k => wl.heap.size ≤ k) wl V → Ext wl V) := fun V h => h.below (Nat.le_refl _) (fun k hk => by have hk' : wl.heap.size ≤ k := hk; have := HN0.out; have h2 : wl.drew.heap.size = wl.heap.size := rfl; omega)
              have HMADE : Hid ((wl.drew.alloc (.cells #[] 50)).ownsRow wl.heap.size 50 14 (.slice (some ⟨wl.heap.size, 0, none⟩) 0 0) 0 []) := by
                exact World.ownsRow_made (base := wl.heap.size) (e := 50) (size := 14) wl.drew #[] 0 (Nat.le_refl _) (Nat.zero_le _) rfl
              have HOWN0 : Hid (∀ k, some k = (Value.slice (some ⟨wl.heap.size, 0, none⟩) 0 0).ownBlock → wl.heap.size ≤ k) := fun k hk => by injection hk with hk; rw [hk]; exact Nat.le_refl _
              have HNW1 : Hid (∀ V, Ext wl.drew V → ∀ (k : Nat) (u : Value), (flatA (La.take jj))[k]? = some u → V.cell? (Addr.add ⟨ba, oa, none⟩ k) = some u) := fun V h k u hk => by
                rw [Go.WideShapes.add_plain]
                exact acs_flat ((HACS.out.take jj).stay (Ext.trans X.out (Ext.trans (Ext.drewR (Ext.refl wl)) h))) k u hk
              have HNW2 : Hid (∀ V, Ext wl V → ∀ (k : Nat) (u : Value), (flatA (La.drop (jj + 1)))[k]? = some u → V.cell? (Addr.add ⟨ba, B2, none⟩ k) = some u) := fun V h k u hk => by
                rw [Go.WideShapes.add_plain]
                have hne : La.drop (jj + 1) ≠ [] := fun e => by rw [e] at hk; simp [flatA] at hk
                rw [HB2N.out hne]
                exact acs_flat ((HACS.out.drop (jj + 1)).stay (Ext.trans X.out h)) k u hk
              go_wp2
              refine rz_begin (fun k => wl.heap.size ≤ k) [] (by kernel_rfl) ?_
              refine rz_take [3, 4, 9, 10] (i := 1) (v := ?_) rfl (by kernel_rfl) (by kernel_rfl) (by kernel_rfl) (by kernel_rfl) (by kernel_rfl) (by kernel_rfl) (fun _ _ _ h => h) (by rfl) ?_ ?_
              rotate_left
              · intro W hW; have hW0 := Frm.tr E29.out hW; clear hW; go_simp <;> with_reducible rfl
              try simp only [Act.put, List.setIfInBounds_toArray, List.set_cons_zero, List.set_cons_succ]
              refine rz_take [3, 4, 9, 10] (i := 2) (v := ?_) rfl (by kernel_rfl) (by kernel_rfl) (by kernel_rfl) (by kernel_rfl) (by kernel_rfl) (by kernel_rfl) (fun _ _ _ h => h) (by rfl) ?_ ?_
              rotate_left
              · intro W hW; have hW0 := Frm.tr E29.out hW; clear hW; go_simp <;> with_reducible rfl
              try simp only [Act.put, List.setIfInBounds_toArray, List.set_cons_zero, List.set_cons_succ]
              refine rz_take [4, 9, 10] (i := 3) (v := ?_) rfl (by kernel_rfl) (by kernel_rfl) (by kernel_rfl) (by kernel_rfl) (by kernel_rfl) (by kernel_rfl) (fun _ _ _ h => h) (by rfl) ?_ ?_
              rotate_left
              · intro W hW; have hW0 := Frm.tr E29.out hW; clear hW; go_simp <;> with_reducible rfl
              try simp only [Act.put, List.setIfInBounds_toArray, List.set_cons_zero, List.set_cons_succ]
              refine rz_take [8, 9, 10] (i := 5) (v := ?_) rfl (by kernel_rfl) (by kernel_rfl) (by kernel_rfl) (by kernel_rfl) (by kernel_rfl) (by kernel_rfl) (fun _ _ _ h => h) (by rfl) ?_ ?_
              rotate_left
              · intro W hW; have hW0 := Frm.tr E29.out hW; clear hW; go_simp <;> with_reducible rfl
              try simp only [Act.put, List.setIfInBounds_toArray, List.set_cons_zero, List.set_cons_succ]
              refine rz_take [7, 8, 9, 10] (i := 6) (v := ?_) rfl (by kernel_rfl) (by kernel_rfl) (by kernel_rfl) (by kernel_rfl) (by kernel_rfl) (by kernel_rfl) (fun _ _ _ h => h) (by rfl) ?_ ?_
              rotate_left
              · intro W hW; have hW0 := Frm.tr E29.out hW; clear hW; go_simp <;> with_reducible rfl
              try simp only [Act.put, List.setIfInBounds_toArray, List.set_cons_zero, List.set_cons_succ]
              refine rz_take [8, 9, 10] (i := 7) (v := ?_) rfl (by kernel_rfl) (by kernel_rfl) (by kernel_rfl) (by kernel_rfl) (by kernel_rfl) (by kernel_rfl) (fun _ _ _ h => h) (by rfl) ?_ ?_
              rotate_left
              · intro W hW; have hW0 := Frm.tr E29.out hW; clear hW; go_simp <;> with_reducible rfl
              try simp only [Act.put, List.setIfInBounds_toArray, List.set_cons_zero, List.set_cons_succ]
              refine rz_take [9, 10] (i := 8) (v := .slice (some ⟨ba, B2, none⟩) (na - (jj + 1)) (ca - (jj + 1))) rfl (by kernel_rfl) (by kernel_rfl) (by kernel_rfl) (by kernel_rfl) (by kernel_rfl) (by kernel_rfl) (fun _ _ _ h => h) (by rfl) ?_ ?_
              · intro W hW; have hW0 := Frm.tr E29.out hW; clear hW; go_simp; all_goals (first | done | (rw [HB2.out]; done) | (simp [HB2.out]; done) | (simp [HB2.out]; intro h9; omega))
              try simp only [Act.put, List.setIfInBounds_toArray, List.set_cons_zero, List.set_cons_succ]
              refine rz_call (i := 0) rfl (by kernel_rfl) (by rfl) (fun K hK => ?_)
              go_simp
              refine hK _ _ (Frm.of_alloc _ _ _) ?_; clear hK K
              have Ea := Lib.hid (Frm.tr E29.out (Frm.of_alloc wl.drew (.cells #[] 50) _))
              try simp only [Act.put, List.setIfInBounds_toArray, List.set_cons_zero, List.set_cons_succ]
              refine rz_call (i := 4) rfl (by kernel_rfl) (by rfl) (fun K hK => ?_)
              refine wp_append_wides (.tmp 166) (.tmp 169) 26 rfl wl.heap.size 50 _ 14 144 Try.underlying26 info_act rfl (by decide) (by decide) (.slice (some ⟨wl.heap.size, 0, none⟩) 0 0) 0 [] (by rfl) HMADE.out ⟨ba, oa, none⟩ jj ca (flatA (La.take jj)) (by rfl) HFL1.out (HNW1.out _ (Ext.alloc _ _)) flat_cells (by omega) (by show wl.heap.size ≤ (wl.alloc (.cells #[] 50)).heap.size; rw [World.size_alloc]; omega) ?_
              intro v2 W4 oo gg bb
              refine hK _ _ (Frm.of_grown gg (fun k hk => HOWN0.out k hk)) ?_; clear hK K
              have Eb := Lib.hid (Frm.tr Ea.out (Frm.of_grown gg (fun k hk => HOWN0.out k hk)))
              have O4 := Lib.hid oo
              obtain ⟨A4, cap4, hv4⟩ := own_shape oo
              subst hv4
              clear oo gg bb
              try simp only [Act.put, List.setIfInBounds_toArray, List.set_cons_zero, List.set_cons_succ]
              refine rz_call (i := 9) rfl (by kernel_rfl) (by rfl) (fun K hK => ?_)
              refine wp_append_wides (.tmp 170) (.tmp 174) 26 rfl wl.heap.size 50 _ 14 144 Try.underlying26 info_act rfl (by decide) (by decide) (.slice A4 (0 + jj) cap4) (0 + jj) ([] ++ flatA (La.take jj)) (by rfl) O4.out ⟨ba, B2, none⟩ (na - (jj + 1)) (ca - (jj + 1)) (flatA (La.drop (jj + 1))) (by rfl) HFL2.out (HNW2.out _ (HEXT.out _ Eb.out)) flat_cells (by omega) Eb.out.size ?_
              intro v2 W5 oo gg bb
              refine hK _ _ (Frm.of_grown gg (fun k hk => (O4.out.lt k hk.symm).1)) ?_; clear hK K
              have Ec := Lib.hid (Frm.tr Eb.out (Frm.of_grown gg (fun k hk => (O4.out.lt k hk.symm).1)))
              have O5 := Lib.hid oo
              obtain ⟨A5, cap5, hv5⟩ := own_shape oo
              subst hv5
              clear oo gg bb
              try simp only [Act.put, List.setIfInBounds_toArray, List.set_cons_zero, List.set_cons_succ]
              refine rz_take [] (i := 10) (v := ?_) rfl (by kernel_rfl) (by kernel_rfl) (by kernel_rfl) (by kernel_rfl) (by kernel_rfl) (by kernel_rfl) (fun _ _ _ h => h) (by rfl) ?_ ?_
              rotate_left
              · intro W hW; have hW0 := Frm.tr Ec.out hW; clear hW; go_simp <;> with_reducible rfl
              try simp only [Act.put, List.setIfInBounds_toArray, List.set_cons_zero, List.set_cons_succ]
              refine rz_done (by kernel_rfl) ?_ _
              have HCB : Hid (∃ A c, Value.slice A5 (0 + jj + (na - (jj + 1))) cap5 = .slice A (La.take jj ++ La.drop (jj + 1)).length c ∧ Acs W5 A (La.take jj ++ La.drop (jj + 1))) := by
                have h1 := O5.out
                rw [List.nil_append, ← flatA_append] at h1
                obtain ⟨h2, A, c, e, _, ha⟩ := ownA_view h1 (fun t ht => by
                  obtain ⟨i, hi⟩ := List.getElem?_of_mem (show t ∈ La by
                    rcases List.mem_append.1 ht with h | h
                    · exact List.mem_of_mem_take h
                    · exact List.mem_of_mem_drop h)
                  obtain ⟨_, _, _, _, hs⟩ := HACS.out i t hi
                  exact hs.stay (Ext.trans X.out (HEXT.out _ Ec.out)))
                rw [h2] at e
                exact ⟨A, c, by rw [h2]; exact e, ha⟩
              obtain ⟨A6, c6, he6, ha6⟩ := HCB.out
              have CB : Hid (∀ V, Ext W5 V → Calls Try.prog 20 #[.slice A5 (0 + jj + (na - (jj + 1))) cap5] V fun e w' => e = .returned (.bool (decide (mayF ((La.take jj ++ La.drop (jj + 1)).map At.x)))) ∧ Ext V w') := fun V h => by
                rw [he6]
                have hmem : ∀ t ∈ La.take jj ++ La.drop (jj + 1), t ∈ La := fun t ht => by
                  rcases List.mem_append.1 ht with h | h
                  · exact List.mem_of_mem_take h
                  · exact List.mem_of_mem_drop h
                refine may_any A6 c6 _ V (by have := HLL.out; rw [List.length_append, List.length_take, List.length_drop]; omega) (fun t ht => (HMEM.out t (hmem t ht)).1) (fun t ht => (HMEM.out t (hmem t ht)).2) (ha6.stay h)
              have X5 : Hid (Ext wa W5) := Ext.trans X.out (HEXT.out _ Ec.out)
              clear HCB he6 ha6 HNW1 HNW2 HMADE HOWN0 E29 Ea Eb
              have HNM : Hid (decide (mayF ((La.take jj ++ La.drop (jj + 1)).map At.x)) = false) := by
                show _ = _
                rw [decide_eq_false_iff_not, List.map_append, List.map_take, List.map_drop]
                exact HNMAY.out
              have CB2 : Hid (∀ V, Ext W5 V → Calls Try.prog 20 #[.slice A5 (jj + (na - (jj + 1))) cap5] V fun e w' => e = .returned (.bool false) ∧ Ext V w') := fun V h => by
                have h9 := CB.out V h
                rw [HNM.out, Nat.zero_add] at h9
                exact h9
              clear CB
              go_wp2_with (first
                | (go_at_call 10; (with_reducible refine (CT.out _).mono ?_); rintro e w6 ⟨rfl, hx⟩; have X6 := Lib.hid hx; clear hx)
                | (go_at_call 20; (with_reducible refine (CB2.out _ X6.out).mono ?_); rintro e w7 ⟨rfl, hx⟩; have X7 := Lib.hid (Ext.trans X6.out hx); clear hx))
              try go_ret
              exact hD.out _ _ ⟨rfl, Ext.trans HXA.out (Ext.trans X5.out X7.out)⟩
            | false =>
              have HN0 : Hid (wl.heap.size = wl.drew.heap.size) := rfl
              have E29 : Hid (Frm (fun k => wl.heap.size ≤ k) wl wl.drew) := Frm.drew (Frm.refl _ _)
              have HEXT : Hid (∀ V, Frm (fun k => wl.heap.size ≤ k) wl V → Ext wl V) := fun V h => h.below (Nat.le_refl _) (fun k hk => by have hk' : wl.heap.size ≤ k := hk; have := HN0.out; have h2 : wl.drew.heap.size = wl.heap.size := rfl; omega)
              have HMADE : Hid ((wl.drew.alloc (.cells #[] 50)).ownsRow wl.heap.size 50 14 (.slice (some ⟨wl.heap.size, 0, none⟩) 0 0) 0 []) := by
                exact World.ownsRow_made (base := wl.heap.size) (e := 50) (size := 14) wl.drew #[] 0 (Nat.le_refl _) (Nat.zero_le _) rfl
              have HOWN0 : Hid (∀ k, some k = (Value.slice (some ⟨wl.heap.size, 0, none⟩) 0 0).ownBlock → wl.heap.size ≤ k) := fun k hk => by injection hk with hk; rw [hk]; exact Nat.le_refl _
              have HNW1 : Hid (∀ V, Ext wl.drew V → ∀ (k : Nat) (u : Value), (flatA (La.take jj))[k]? = some u → V.cell? (Addr.add ⟨ba, oa, none⟩ k) = some u) := fun V h k u hk => by
                rw [Go.WideShapes.add_plain]
                exact acs_flat ((HACS.out.take jj).stay (Ext.trans X.out (Ext.trans (Ext.drewR (Ext.refl wl)) h))) k u hk
              have HNW2 : Hid (∀ V, Ext wl V → ∀ (k : Nat) (u : Value), (flatA (La.drop (jj + 1)))[k]? = some u → V.cell? (Addr.add ⟨ba, B2, none⟩ k) = some u) := fun V h k u hk => by
                rw [Go.WideShapes.add_plain]
                have hne : La.drop (jj + 1) ≠ [] := fun e => by rw [e] at hk; simp [flatA] at hk
                rw [HB2N.out hne]
                exact acs_flat ((HACS.out.drop (jj + 1)).stay (Ext.trans X.out h)) k u hk
              go_wp2
              refine rz_begin (fun k => wl.heap.size ≤ k) [] (by kernel_rfl) ?_
              refine rz_take [3, 4, 9, 10] (i := 1) (v := ?_) rfl (by kernel_rfl) (by kernel_rfl) (by kernel_rfl) (by kernel_rfl) (by kernel_rfl) (by kernel_rfl) (fun _ _ _ h => h) (by rfl) ?_ ?_
              rotate_left
              · intro W hW; have hW0 := Frm.tr E29.out hW; clear hW; go_simp <;> with_reducible rfl
              try simp only [Act.put, List.setIfInBounds_toArray, List.set_cons_zero, List.set_cons_succ]
              refine rz_take [3, 4, 9, 10] (i := 2) (v := ?_) rfl (by kernel_rfl) (by kernel_rfl) (by kernel_rfl) (by kernel_rfl) (by kernel_rfl) (by kernel_rfl) (fun _ _ _ h => h) (by rfl) ?_ ?_
              rotate_left
              · intro W hW; have hW0 := Frm.tr E29.out hW; clear hW; go_simp <;> with_reducible rfl
              try simp only [Act.put, List.setIfInBounds_toArray, List.set_cons_zero, List.set_cons_succ]
              refine rz_take [4, 9, 10] (i := 3) (v := ?_) rfl (by kernel_rfl) (by kernel_rfl) (by kernel_rfl) (by kernel_rfl) (by kernel_rfl) (by kernel_rfl) (fun _ _ _ h => h) (by rfl) ?_ ?_
              rotate_left
              · intro W hW; have hW0 := Frm.tr E29.out hW; clear hW; go_simp <;> with_reducible rfl
              try simp only [Act.put, List.setIfInBounds_toArray, List.set_cons_zero, List.set_cons_succ]
              refine rz_take [8, 9, 10] (i := 5) (v := ?_) rfl (by kernel_rfl) (by kernel_rfl) (by kernel_rfl) (by kernel_rfl) (by kernel_rfl) (by kernel_rfl) (fun _ _ _ h => h) (by rfl) ?_ ?_
              rotate_left
              · intro W hW; have hW0 := Frm.tr E29.out hW; clear hW; go_simp <;> with_reducible rfl
              try simp only [Act.put, List.setIfInBounds_toArray, List.set_cons_zero, List.set_cons_succ]
              refine rz_take [7, 8, 9, 10] (i := 6) (v := ?_) rfl (by kernel_rfl) (by kernel_rfl) (by kernel_rfl) (by kernel_rfl) (by kernel_rfl) (by kernel_rfl) (fun _ _ _ h => h) (by rfl) ?_ ?_
              rotate_left
              · intro W hW; have hW0 := Frm.tr E29.out hW; clear hW; go_simp <;> with_reducible rfl
              try simp only [Act.put, List.setIfInBounds_toArray, List.set_cons_zero, List.set_cons_succ]
              refine rz_take [8, 9, 10] (i := 7) (v := ?_) rfl (by kernel_rfl) (by kernel_rfl) (by kernel_rfl) (by kernel_rfl) (by kernel_rfl) (by kernel_rfl) (fun _ _ _ h => h) (by rfl) ?_ ?_
              rotate_left
              · intro W hW; have hW0 := Frm.tr E29.out hW; clear hW; go_simp <;> with_reducible rfl
              try simp only [Act.put, List.setIfInBounds_toArray, List.set_cons_zero, List.set_cons_succ]
              refine rz_take [9, 10] (i := 8) (v := .slice (some ⟨ba, B2, none⟩) (na - (jj + 1)) (ca - (jj + 1))) rfl (by kernel_rfl) (by kernel_rfl) (by kernel_rfl) (by kernel_rfl) (by kernel_rfl) (by kernel_rfl) (fun _ _ _ h => h) (by rfl) ?_ ?_
              · intro W hW; have hW0 := Frm.tr E29.out hW; clear hW; go_simp; all_goals (first | done | (rw [HB2.out]; done) | (simp [HB2.out]; done) | (simp [HB2.out]; intro h9; omega))
              try simp only [Act.put, List.setIfInBounds_toArray, List.set_cons_zero, List.set_cons_succ]
              refine rz_call (i := 0) rfl (by kernel_rfl) (by rfl) (fun K hK => ?_)
              go_simp
              refine hK _ _ (Frm.of_alloc _ _ _) ?_; clear hK K
              have Ea := Lib.hid (Frm.tr E29.out (Frm.of_alloc wl.drew (.cells #[] 50) _))
              try simp only [Act.put, List.setIfInBounds_toArray, List.set_cons_zero, List.set_cons_succ]
              refine rz_call (i := 4) rfl (by kernel_rfl) (by rfl) (fun K hK => ?_)
              refine wp_append_wides (.tmp 166) (.tmp 169) 26 rfl wl.heap.size 50 _ 14 144 Try.underlying26 info_act rfl (by decide) (by decide) (.slice (some ⟨wl.heap.size, 0, none⟩) 0 0) 0 [] (by rfl) HMADE.out ⟨ba, oa, none⟩ jj ca (flatA (La.take jj)) (by rfl) HFL1.out (HNW1.out _ (Ext.alloc _ _)) flat_cells (by omega) (by show wl.heap.size ≤ (wl.alloc (.cells #[] 50)).heap.size; rw [World.size_alloc]; omega) ?_
              intro v2 W4 oo gg bb
              refine hK _ _ (Frm.of_grown gg (fun k hk => HOWN0.out k hk)) ?_; clear hK K
              have Eb := Lib.hid (Frm.tr Ea.out (Frm.of_grown gg (fun k hk => HOWN0.out k hk)))
              have O4 := Lib.hid oo
              obtain ⟨A4, cap4, hv4⟩ := own_shape oo
              subst hv4
              clear oo gg bb
              try simp only [Act.put, List.setIfInBounds_toArray, List.set_cons_zero, List.set_cons_succ]
              refine rz_call (i := 9) rfl (by kernel_rfl) (by rfl) (fun K hK => ?_)
              refine wp_append_wides (.tmp 170) (.tmp 174) 26 rfl wl.heap.size 50 _ 14 144 Try.underlying26 info_act rfl (by decide) (by decide) (.slice A4 (0 + jj) cap4) (0 + jj) ([] ++ flatA (La.take jj)) (by rfl) O4.out ⟨ba, B2, none⟩ (na - (jj + 1)) (ca - (jj + 1)) (flatA (La.drop (jj + 1))) (by rfl) HFL2.out (HNW2.out _ (HEXT.out _ Eb.out)) flat_cells (by omega) Eb.out.size ?_
              intro v2 W5 oo gg bb
              refine hK _ _ (Frm.of_grown gg (fun k hk => (O4.out.lt k hk.symm).1)) ?_; clear hK K
              have Ec := Lib.hid (Frm.tr Eb.out (Frm.of_grown gg (fun k hk => (O4.out.lt k hk.symm).1)))
              have O5 := Lib.hid oo
              obtain ⟨A5, cap5, hv5⟩ := own_shape oo
              subst hv5
              clear oo gg bb
              try simp only [Act.put, List.setIfInBounds_toArray, List.set_cons_zero, List.set_cons_succ]
              refine rz_take [] (i := 10) (v := ?_) rfl (by kernel_rfl) (by kernel_rfl) (by kernel_rfl) (by kernel_rfl) (by kernel_rfl) (by kernel_rfl) (fun _ _ _ h => h) (by rfl) ?_ ?_
              rotate_left
              · intro W hW; have hW0 := Frm.tr Ec.out hW; clear hW; go_simp <;> with_reducible rfl
              try simp only [Act.put, List.setIfInBounds_toArray, List.set_cons_zero, List.set_cons_succ]
              refine rz_done (by kernel_rfl) ?_ _
              have HCB : Hid (∃ A c, Value.slice A5 (0 + jj + (na - (jj + 1))) cap5 = .slice A (La.take jj ++ La.drop (jj + 1)).length c ∧ Acs W5 A (La.take jj ++ La.drop (jj + 1))) := by
                have h1 := O5.out
                rw [List.nil_append, ← flatA_append] at h1
                obtain ⟨h2, A, c, e, _, ha⟩ := ownA_view h1 (fun t ht => by
                  obtain ⟨i, hi⟩ := List.getElem?_of_mem (show t ∈ La by
                    rcases List.mem_append.1 ht with h | h
                    · exact List.mem_of_mem_take h
                    · exact List.mem_of_mem_drop h)
                  obtain ⟨_, _, _, _, hs⟩ := HACS.out i t hi
                  exact hs.stay (Ext.trans X.out (HEXT.out _ Ec.out)))
                rw [h2] at e
                exact ⟨A, c, by rw [h2]; exact e, ha⟩
              obtain ⟨A6, c6, he6, ha6⟩ := HCB.out
              have CB : Hid (∀ V, Ext W5 V → Calls Try.prog 20 #[.slice A5 (0 + jj + (na - (jj + 1))) cap5] V fun e w' => e = .returned (.bool (decide (mayF ((La.take jj ++ La.drop (jj + 1)).map At.x)))) ∧ Ext V w') := fun V h => by
                rw [he6]
                have hmem : ∀ t ∈ La.take jj ++ La.drop (jj + 1), t ∈ La := fun t ht => by
                  rcases List.mem_append.1 ht with h | h
                  · exact List.mem_of_mem_take h
                  · exact List.mem_of_mem_drop h
                refine may_any A6 c6 _ V (by have := HLL.out; rw [List.length_append, List.length_take, List.length_drop]; omega) (fun t ht => (HMEM.out t (hmem t ht)).1) (fun t ht => (HMEM.out t (hmem t ht)).2) (ha6.stay h)
              have X5 : Hid (Ext wa W5) := Ext.trans X.out (HEXT.out _ Ec.out)
              clear HCB he6 ha6 HNW1 HNW2 HMADE HOWN0 E29 Ea Eb
              clear CB
              go_wp2_with (go_at_call 10; (with_reducible refine (CT.out _).mono ?_); rintro e w6 ⟨rfl, hx⟩; have X6 := Lib.hid hx; clear hx)
              try go_ret
              exact hD.out _ _ ⟨rfl, Ext.trans HXA.out (Ext.trans X5.out X6.out)⟩

end Go.Proofs.Ytnionfddejaalaa
