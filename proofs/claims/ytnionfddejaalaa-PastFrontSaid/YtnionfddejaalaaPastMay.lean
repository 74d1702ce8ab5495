/-
  past.May (law 22).
-/
import Derived.Test.YtnionfddejaalaaPastStep
import Derived.Test.YtnionfddejaalaaPastSame
import Derived.Test.YtnionfddejaalaaPastSmall
import Derived.Test.YtnionfddejaalaaMayLaw
import Derived.Test.YtnionfddejaalaaHeld
namespace Go.Proofs.Ytnionfddejaalaa
set_option linter.unusedVariables false
set_option linter.unusedSimpArgs false
open Go.RowKit
open Classical in
theorem mayF_nil_d : True := trivial

open Classical in
set_option maxRecDepth 8000 in
set_option maxHeartbeats 16000000 in
theorem may_any (A : Option Addr) (cap : Nat) (L : List At) (w : World) (hl : L.length ≤ 1000000) (hr : ∀ t ∈ L, t.x.r.l.length ≤ 17592186043904) (hd : ∀ t ∈ L, t.x.q.d.size ≤ maxLen) (hA : Acs w A L) :
    Calls Try.prog 20 #[.slice A L.length cap] w fun e w' => e = .returned (.bool (decide (mayF (L.map At.x)))) ∧ Ext w w' := by
  refine hide_post fun D hD => ?_
  obtain ⟨n, hn⟩ : ∃ n, n = L.length := ⟨_, rfl⟩
  rw [← hn] at hl ⊢
  have HN := Lib.hid hn
  have HA := Lib.hid hA
  have HR := Lib.hid hr
  have HQD := Lib.hid hd
  obtain ⟨P, hP⟩ : ∃ P, P = w.heap.size := ⟨_, rfl⟩
  have CN : Hid (Calls Try.prog 8 #[] w fun e w' => e = .returned (.pointer (some ⟨P, 0, none⟩)) ∧ PAt w' P P none .init ∧ Ext w w') := by rw [hP]; exact pastNew_any w.heap.size w (Nat.le_refl _)
  have HPW := Lib.hid hP
  clear hA hn hr hd hP
  go_enter Try.func20, Try.ntmps20
  go_wp2_with (go_at_call 8; (with_reducible refine CN.out.mono ?_); rintro e w1 ⟨rfl, hp1, hx1⟩; have HP1 := Lib.hid hp1; have HX1 := Lib.hid hx1; clear hp1 hx1)
  go_loopw [10] (fun i wr => ∃ (j : Nat) (st : Ps) (G : Option Nat), j ≤ n ∧ i = .int .i64 j ∧ Hid (runF .init ((L.map At.x).take j) = some st) ∧ Hid (PAt wr P P G st) ∧ Hid (Ext w wr)) (fun i _ => n - (intOf i).toNat)
  case atStart => exact ⟨0, .init, none, by omega, rfl, rfl, HP1.out, HX1.out⟩
  case round =>
    obtain ⟨j, st, G, hj, rfl, HRUN, HPA, HX⟩ := hrel
    have HK : Hid (PsOk st) := runF_ok _ _ _ PsOk.init HRUN.out
    by_cases hlt : j < n
    · obtain ⟨t, ht⟩ : ∃ t, L[j]? = some t := ⟨_, List.getElem?_eq_getElem (by rw [← HN.out]; exact hlt)⟩
      have hst := run_take HRUN.out (show (L.map At.x)[j]? = some t.x by rw [List.getElem?_map, ht]; rfl)
      have hacts := take_acts HRUN.out
      have HSL : Hid (st.acts.length ≤ 1000000) := by (show _ ≤ _); rw [hacts, List.length_take, List.length_map]; have := HN.out; omega
      have hrl := HR.out t (List.mem_of_getElem? ht)
      have hqd := HQD.out t (List.mem_of_getElem? ht)
      obtain ⟨b, o, rfl, hc, hsa0⟩ := HA.out j t ht
      have hsa := hsa0.stay HX.out
      replace hc : ∀ k, k < 14 → wr.cell? ⟨b, o + j * 14 + k, none⟩ = (acRow t.x t.A t.cap)[k]? := fun k hk => by
        have h1 := hc k hk
        have h2 : ∃ v, (acRow t.x t.A t.cap)[k]? = some v := ⟨(acRow t.x t.A t.cap)[k]'(by show k < 14; exact hk), List.getElem?_eq_getElem (by show k < 14; exact hk)⟩
        obtain ⟨v, hv⟩ := h2
        rw [hv] at h1 ⊢
        exact cell_stay HX.out h1
      obtain ⟨tx, tA, tc⟩ := t
      obtain ⟨cl, sq, ans, ⟨qc, qs, qk, qi, qm, qd⟩, ⟨rc, rv, rd, rl⟩, at9⟩ := tx
      simp only at hc hsa hrl hst hqd
      obtain ⟨rn, hrn⟩ : ∃ r, r = rl.length := ⟨_, rfl⟩
      have c0 : wr.cell? _ = some (.int .i64 cl) := hc 0 (by decide)
      have c1 : wr.cell? _ = some (.int .i64 sq) := hc 1 (by decide)
      have c2 : wr.cell? _ = some (.bool ans) := hc 2 (by decide)
      have c3 : wr.cell? _ = some (.int .i64 qc) := hc 3 (by decide)
      have c4 : wr.cell? _ = some (.int .i64 qs) := hc 4 (by decide)
      have c5 : wr.cell? _ = some (.int .i64 qk) := hc 5 (by decide)
      have c6 : wr.cell? _ = some (.int .i64 qi) := hc 6 (by decide)
      have c7 : wr.cell? _ = some (.int .i64 qm) := hc 7 (by decide)
      have c8 : wr.cell? _ = some (.string qd) := hc 8 (by decide)
      have c9 : wr.cell? _ = some (.int .i64 rc) := hc 9 (by decide)
      have c10 : wr.cell? _ = some (.int .i64 rv) := hc 10 (by decide)
      have c11 : wr.cell? _ = some (.string rd) := hc 11 (by decide)
      have c12 : wr.cell? _ = some (.slice tA rl.length tc) := hc 12 (by decide)
      have c13 : wr.cell? _ = some (.int .i64 at9) := hc 13 (by decide)
      rw [← hrn] at c12
      simp only [Nat.add_zero] at c0
      obtain ⟨g, hg⟩ : ∃ g, g = wr.heap.size := ⟨_, rfl⟩
      have HSTEP := Lib.hid hst
      have hj1 : (j : Int) < (n : Int) := by omega
      have hj0 : (0 : Int) ≤ (j : Int) := by omega
      have HRN := Lib.hid hrn
      have HSA0 := Lib.hid hsa0
      clear hc ht hsa0 hrn
      cases ans with
      | true =>
        obtain ⟨w0, hw0⟩ : ∃ w0, w0 = wr.alloc (.cells #[.int .i64 cl, .int .i64 sq, .bool true, .int .i64 qc, .int .i64 qs, .int .i64 qk, .int .i64 qi, .int .i64 qm, .string qd, .int .i64 rc, .int .i64 rv, .string rd, .slice tA rn tc, .int .i64 at9] 50) := ⟨_, rfl⟩
        have hb0 : Ext wr w0 := by rw [hw0]; exact Ext.alloc _ _
        have KR : Hid (Blk w0 g 50 #[.int .i64 cl, .int .i64 sq, .bool true, .int .i64 qc, .int .i64 qs, .int .i64 qk, .int .i64 qi, .int .i64 qm, .string qd, .int .i64 rc, .int .i64 rv, .string rd, .slice tA rn tc, .int .i64 at9]) := by show Blk _ _ _ _; rw [hw0, hg]; exact Blk.new _ _ _
        have heq : stE st ⟨cl, sq, true, ⟨qc, qs, qk, qi, qm, qd⟩, ⟨rc, rv, rd, rl⟩, at9⟩ = ansE st cl sq at9 := by unfold stE; simp
        have heqn : (if stE st ⟨cl, sq, true, ⟨qc, qs, qk, qi, qm, qd⟩, ⟨rc, rv, rd, rl⟩, at9⟩ = 0 then stS st ⟨cl, sq, true, ⟨qc, qs, qk, qi, qm, qd⟩, ⟨rc, rv, rd, rl⟩, at9⟩ else st) = ansN st cl sq ⟨rc, rv, rd, rl⟩ at9 := by unfold ansN; rw [heq]; unfold stS; simp
        have CA : Hid (Calls Try.prog 13 #[.pointer (some ⟨P, 0, none⟩), .int .i64 cl, .int .i64 sq, .agg #[.int .i64 rc, .int .i64 rv, .string rd, .slice tA rn tc], .int .i64 at9] w0 fun e w' => e = .returned (.int .i64 (stE st ⟨cl, sq, true, ⟨qc, qs, qk, qi, qm, qd⟩, ⟨rc, rv, rd, rl⟩, at9⟩)) ∧ POut w0 w' P P G (if stE st ⟨cl, sq, true, ⟨qc, qs, qk, qi, qm, qd⟩, ⟨rc, rv, rd, rl⟩, at9⟩ = 0 then stS st ⟨cl, sq, true, ⟨qc, qs, qk, qi, qm, qd⟩, ⟨rc, rv, rd, rl⟩, at9⟩ else st)) := by
          have hsl : st.acts.length ≤ 1000000 := HSL.out
          have h7 := ans_any P P G st sq rc rv rd tA tc rl at9 cl w0 (HPA.out.stay hb0) HK.out hsl (by omega) (hsa.stay hb0)
          rw [← HRN.out] at h7
          rw [heqn, heq]
          exact h7
        have HS : Hid ((stE st ⟨cl, sq, true, ⟨qc, qs, qk, qi, qm, qd⟩, ⟨rc, rv, rd, rl⟩, at9⟩ = 0 ∧ sameAc (stA st ⟨cl, sq, true, ⟨qc, qs, qk, qi, qm, qd⟩, ⟨rc, rv, rd, rl⟩, at9⟩) ⟨cl, sq, true, ⟨qc, qs, qk, qi, qm, qd⟩, ⟨rc, rv, rd, rl⟩, at9⟩ = true → False) → decide (mayF (L.map At.x)) = false) := fun h => by
          rw [decide_eq_false_iff_not]
          refine may_not (j := j + 1) ?_
          rw [HSTEP.out, if_neg h]
        have HGO : Hid (stE st ⟨cl, sq, true, ⟨qc, qs, qk, qi, qm, qd⟩, ⟨rc, rv, rd, rl⟩, at9⟩ = 0 → sameAc (stA st ⟨cl, sq, true, ⟨qc, qs, qk, qi, qm, qd⟩, ⟨rc, rv, rd, rl⟩, at9⟩) ⟨cl, sq, true, ⟨qc, qs, qk, qi, qm, qd⟩, ⟨rc, rv, rd, rl⟩, at9⟩ = true → runF .init ((L.map At.x).take (j + 1)) = some (stS st ⟨cl, sq, true, ⟨qc, qs, qk, qi, qm, qd⟩, ⟨rc, rv, rd, rl⟩, at9⟩)) := fun h1 h2 => by
          rw [HSTEP.out, if_pos ⟨h1, h2⟩]
        have HOKS : Hid (stE st ⟨cl, sq, true, ⟨qc, qs, qk, qi, qm, qd⟩, ⟨rc, rv, rd, rl⟩, at9⟩ = 0 → PsOk (stS st ⟨cl, sq, true, ⟨qc, qs, qk, qi, qm, qd⟩, ⟨rc, rv, rd, rl⟩, at9⟩)) := fun h1 => stS_ok HK.out h1
        have HAS : Hid ((stS st ⟨cl, sq, true, ⟨qc, qs, qk, qi, qm, qd⟩, ⟨rc, rv, rd, rl⟩, at9⟩).acts = st.acts ++ [stA st ⟨cl, sq, true, ⟨qc, qs, qk, qi, qm, qd⟩, ⟨rc, rv, rd, rl⟩, at9⟩]) := stS_acts _ _
        have HX0 : Hid (Ext w w0) := Ext.trans HX.out hb0
        have HFR : Hid (∀ w1, Frm (Psel P G) w0 w1 → Blk w1 g 50 #[.int .i64 cl, .int .i64 sq, .bool true, .int .i64 qc, .int .i64 qs, .int .i64 qk, .int .i64 qi, .int .i64 qm, .string qd, .int .i64 rc, .int .i64 rv, .string rd, .slice tA rn tc, .int .i64 at9] ∧ Ext w w1) := fun w1 hF => by
          refine ⟨KR.out.frm hF ?_, Frm.step HX0.out hF HX0.out.size (fun k hk => by rw [← HPW.out]; exact (HPA.out.sel k hk).1)⟩
          intro hk
          obtain ⟨_, cs, h⟩ := HPA.out.sel g hk
          rcases h with h | h <;> have := h.lt <;> omega
        have HW := Lib.hid hw0
        have HG := Lib.hid hg
        have HST := Lib.hid hst
        clear hb0 hw0 heq heqn hst hg
        generalize stE st ⟨cl, sq, true, ⟨qc, qs, qk, qi, qm, qd⟩, ⟨rc, rv, rd, rl⟩, at9⟩ = E at *
        by_cases hE : E = 0
        · subst hE
          go_wp2_with (go_at_call 13; go_loud (rw [← HW.out]; (with_reducible refine CA.out.mono ?_); rintro e w1 ⟨rfl, hout⟩; have HOUT := Lib.hid hout; rw [← HG.out]; clear hout))
          obtain ⟨G', hP', hF', hG'⟩ := HOUT.out
          obtain ⟨hB1, hX1⟩ := HFR.out w1 hF'
          rw [if_pos trivial] at hP'
          have hP'2 := hP'
          obtain ⟨_, v, l0, l1, l2, l3, p0, p1, p2, p3, o0, o1, o2, o3, L', kP, _, _, _, hown, _, hL', hin⟩ := hP'
          obtain ⟨_, A', cap', rfl, hcap', hacs⟩ := ownA_view hown (fun t ht => (hin t ht).sl)
          have hLL : L'.length = st.acts.length + 1 := by
            have h5 := congrArg List.length hL'
            rw [HAS.out, List.length_map, List.length_append] at h5
            simpa using h5
          obtain ⟨m, hm⟩ : ∃ m, m = st.acts.length := ⟨_, rfl⟩
          rw [← hm] at hLL
          obtain ⟨t', ht'⟩ : ∃ t', L'[m]? = some t' := ⟨_, List.getElem?_eq_getElem (by omega)⟩
          have hx' : t'.x = stA st ⟨cl, sq, true, ⟨qc, qs, qk, qi, qm, qd⟩, ⟨rc, rv, rd, rl⟩, at9⟩ := by
            have h5 := congrArg (fun l => l[m]?) hL'
            simp only [List.getElem?_map, ht', HAS.out, Option.map_some] at h5
            rw [List.getElem?_append_right (by omega), hm, Nat.sub_self] at h5
            simpa using h5
          obtain ⟨b', o', rfl, hc', hsa'⟩ := hacs m t' ht'
          obtain ⟨tx', tA', tc'⟩ := t'
          obtain ⟨cl', sq', ans', ⟨qc', qs', qk', qi', qm', qd'⟩, ⟨rc', rv', rd', rl'⟩, at9'⟩ := tx'
          simp only at hx' hc' hsa'
          obtain ⟨rn', hrn'⟩ : ∃ r, r = rl'.length := ⟨_, rfl⟩
          have hrl' : rl'.length ≤ 17592186043904 := by
            have h5 := congrArg (fun z => z.r.l) hx'
            unfold stA at h5
            simp [Rpv.zero] at h5
            rw [h5]
            exact hrl
          have CS : Hid (∀ V, Ext w1 V → Calls Try.prog 41 #[.agg #[.int .i64 cl, .int .i64 sq, .bool true, .int .i64 qc, .int .i64 qs, .int .i64 qk, .int .i64 qi, .int .i64 qm, .string qd, .int .i64 rc, .int .i64 rv, .string rd, .slice tA rn tc, .int .i64 at9], .agg #[.int .i64 cl', .int .i64 sq', .bool ans', .int .i64 qc', .int .i64 qs', .int .i64 qk', .int .i64 qi', .int .i64 qm', .string qd', .int .i64 rc', .int .i64 rv', .string rd', .slice tA' rn' tc', .int .i64 at9']] V fun e w' => e = .returned (.bool (sameAc ⟨cl, sq, true, ⟨qc, qs, qk, qi, qm, qd⟩, ⟨rc, rv, rd, rl⟩, at9⟩ ⟨cl', sq', ans', ⟨qc', qs', qk', qi', qm', qd'⟩, ⟨rc', rv', rd', rl'⟩, at9'⟩)) ∧ Ext V w') := fun V h => by
            have h7 := pastSame_any cl sq true qc qs qk qi qm qd rc rv rd rl at9 cl' sq' ans' qc' qs' qk' qi' qm' qd' rc' rv' rd' rl' at9' tA tA' tc tc' V (by omega) (by omega) ((HSA0.out.stay hX1).stay h) (hsa'.stay h)
            rw [← HRN.out, ← hrn'] at h7
            exact h7
          have CZ : Hid (∀ b, sameAc ⟨cl, sq, true, ⟨qc, qs, qk, qi, qm, qd⟩, ⟨rc, rv, rd, rl⟩, at9⟩ ⟨cl', sq', ans', ⟨qc', qs', qk', qi', qm', qd'⟩, ⟨rc', rv', rd', rl'⟩, at9'⟩ = b → ∀ V, Ext w1 V → Calls Try.prog 41 #[.agg #[.int .i64 cl, .int .i64 sq, .bool true, .int .i64 qc, .int .i64 qs, .int .i64 qk, .int .i64 qi, .int .i64 qm, .string qd, .int .i64 rc, .int .i64 rv, .string rd, .slice tA rn tc, .int .i64 at9], .agg #[.int .i64 cl', .int .i64 sq', .bool ans', .int .i64 qc', .int .i64 qs', .int .i64 qk', .int .i64 qi', .int .i64 qm', .string qd', .int .i64 rc', .int .i64 rv', .string rd', .slice tA' rn' tc', .int .i64 at9']] V fun e w' => e = .returned (.bool b) ∧ Ext V w') := fun b hb => by rw [← hb]; exact CS.out
          have X1 := Lib.hid hX1
          have HX' := Lib.hid hx'
          have E0 : Hid (Ext w1 w1) := Ext.refl _
          have HP2 := Lib.hid hP'2
          have HGO1 := HGO.out trivial
          have HOK1 := Lib.hid (HOKS.out trivial)
          have HS1 : Hid (¬ sameAc ⟨cl', sq', ans', ⟨qc', qs', qk', qi', qm', qd'⟩, ⟨rc', rv', rd', rl'⟩, at9'⟩ ⟨cl, sq, true, ⟨qc, qs, qk, qi, qm, qd⟩, ⟨rc, rv, rd, rl⟩, at9⟩ = true → decide (mayF (L.map At.x)) = false) := fun h => HS.out (fun h2 => h (by rw [hx']; exact h2.2))
          have HGO2 : Hid (sameAc ⟨cl', sq', ans', ⟨qc', qs', qk', qi', qm', qd'⟩, ⟨rc', rv', rd', rl'⟩, at9'⟩ ⟨cl, sq, true, ⟨qc, qs, qk, qi, qm, qd⟩, ⟨rc, rv, rd, rl⟩, at9⟩ = true → runF .init ((L.map At.x).take (j + 1)) = some (stS st ⟨cl, sq, true, ⟨qc, qs, qk, qi, qm, qd⟩, ⟨rc, rv, rd, rl⟩, at9⟩)) := fun h => HGO1 (by rw [← hx']; exact h)
          have d0 : w1.cell? _ = some (.int .i64 cl') := hc' 0 (by decide)
          have e0 := hB1.cell 0
          have d1 : w1.cell? _ = some (.int .i64 sq') := hc' 1 (by decide)
          have e1 := hB1.cell 1
          have d2 : w1.cell? _ = some (.bool ans') := hc' 2 (by decide)
          have e2 := hB1.cell 2
          have d3 : w1.cell? _ = some (.int .i64 qc') := hc' 3 (by decide)
          have e3 := hB1.cell 3
          have d4 : w1.cell? _ = some (.int .i64 qs') := hc' 4 (by decide)
          have e4 := hB1.cell 4
          have d5 : w1.cell? _ = some (.int .i64 qk') := hc' 5 (by decide)
          have e5 := hB1.cell 5
          have d6 : w1.cell? _ = some (.int .i64 qi') := hc' 6 (by decide)
          have e6 := hB1.cell 6
          have d7 : w1.cell? _ = some (.int .i64 qm') := hc' 7 (by decide)
          have e7 := hB1.cell 7
          have d8 : w1.cell? _ = some (.string qd') := hc' 8 (by decide)
          have e8 := hB1.cell 8
          have d9 : w1.cell? _ = some (.int .i64 rc') := hc' 9 (by decide)
          have e9 := hB1.cell 9
          have d10 : w1.cell? _ = some (.int .i64 rv') := hc' 10 (by decide)
          have e10 := hB1.cell 10
          have d11 : w1.cell? _ = some (.string rd') := hc' 11 (by decide)
          have e11 := hB1.cell 11
          have d12 : w1.cell? _ = some (.slice tA' rl'.length tc') := hc' 12 (by decide)
          have e12 := hB1.cell 12
          have d13 : w1.cell? _ = some (.int .i64 at9') := hc' 13 (by decide)
          have e13 := hB1.cell 13
          simp at e0 e1 e2 e3 e4 e5 e6 e7 e8 e9 e10 e11 e12 e13
          rw [← hrn'] at d12
          simp only [Nat.add_zero] at d0
          have kv := kP.cell 0
          simp at kv
          rw [hLL] at kv
          have y0 : ∀ W, Ext w1 W → W.cell? _ = _ := fun W h => cell_stay h e0
          have x0 : ∀ W, Ext w1 W → W.cell? _ = _ := fun W h => cell_stay h d0
          have y1 : ∀ W, Ext w1 W → W.cell? _ = _ := fun W h => cell_stay h e1
          have x1 : ∀ W, Ext w1 W → W.cell? _ = _ := fun W h => cell_stay h d1
          have y2 : ∀ W, Ext w1 W → W.cell? _ = _ := fun W h => cell_stay h e2
          have x2 : ∀ W, Ext w1 W → W.cell? _ = _ := fun W h => cell_stay h d2
          have y3 : ∀ W, Ext w1 W → W.cell? _ = _ := fun W h => cell_stay h e3
          have x3 : ∀ W, Ext w1 W → W.cell? _ = _ := fun W h => cell_stay h d3
          have y4 : ∀ W, Ext w1 W → W.cell? _ = _ := fun W h => cell_stay h e4
          have x4 : ∀ W, Ext w1 W → W.cell? _ = _ := fun W h => cell_stay h d4
          have y5 : ∀ W, Ext w1 W → W.cell? _ = _ := fun W h => cell_stay h e5
          have x5 : ∀ W, Ext w1 W → W.cell? _ = _ := fun W h => cell_stay h d5
          have y6 : ∀ W, Ext w1 W → W.cell? _ = _ := fun W h => cell_stay h e6
          have x6 : ∀ W, Ext w1 W → W.cell? _ = _ := fun W h => cell_stay h d6
          have y7 : ∀ W, Ext w1 W → W.cell? _ = _ := fun W h => cell_stay h e7
          have x7 : ∀ W, Ext w1 W → W.cell? _ = _ := fun W h => cell_stay h d7
          have y8 : ∀ W, Ext w1 W → W.cell? _ = _ := fun W h => cell_stay h e8
          have x8 : ∀ W, Ext w1 W → W.cell? _ = _ := fun W h => cell_stay h d8
          have y9 : ∀ W, Ext w1 W → W.cell? _ = _ := fun W h => cell_stay h e9
          have x9 : ∀ W, Ext w1 W → W.cell? _ = _ := fun W h => cell_stay h d9
          have y10 : ∀ W, Ext w1 W → W.cell? _ = _ := fun W h => cell_stay h e10
          have x10 : ∀ W, Ext w1 W → W.cell? _ = _ := fun W h => cell_stay h d10
          have y11 : ∀ W, Ext w1 W → W.cell? _ = _ := fun W h => cell_stay h e11
          have x11 : ∀ W, Ext w1 W → W.cell? _ = _ := fun W h => cell_stay h d11
          have y12 : ∀ W, Ext w1 W → W.cell? _ = _ := fun W h => cell_stay h e12
          have x12 : ∀ W, Ext w1 W → W.cell? _ = _ := fun W h => cell_stay h d12
          have y13 : ∀ W, Ext w1 W → W.cell? _ = _ := fun W h => cell_stay h e13
          have x13 : ∀ W, Ext w1 W → W.cell? _ = _ := fun W h => cell_stay h d13
          have y14 : ∀ W, Ext w1 W → W.cell? _ = _ := fun W h => cell_stay h kv
          have hmm : (m : Int) < (m : Int) + 1 := by omega
          have hm0 : (0 : Int) ≤ (m : Int) := by omega
          have hmw : IntKind.i64.wrap (m : Int) = (m : Int) := IntWalk.i64_in _ (by have := HSL.out; omega)
          clear hP'2 HGO1 hX1 hB1 hx' hc' hsa' hacs kP hown hin hL' hF' hG' ht' hrn' CS hm hrl' hcap' e0 d0 e1 d1 e2 d2 e3 d3 e4 d4 e5 d5 e6 d6 e7 d7 e8 d8 e9 d9 e10 d10 e11 d11 e12 d12 e13 d13 kv
          clear c0 c1 c2 c3 c4 c5 c6 c7 c8 c9 c10 c11 c12 c13
          cases hsm : sameAc ⟨cl, sq, true, ⟨qc, qs, qk, qi, qm, qd⟩, ⟨rc, rv, rd, rl⟩, at9⟩ ⟨cl', sq', ans', ⟨qc', qs', qk', qi', qm', qd'⟩, ⟨rc', rv', rd', rl'⟩, at9'⟩ with
          | true =>
            have CT := Lib.hid (CZ.out true hsm)
            have hsm2 : sameAc ⟨cl', sq', ans', ⟨qc', qs', qk', qi', qm', qd'⟩, ⟨rc', rv', rd', rl'⟩, at9'⟩ ⟨cl, sq, true, ⟨qc, qs, qk, qi, qm, qd⟩, ⟨rc, rv, rd, rl⟩, at9⟩ = true := by rw [sameAc_iff] at hsm ⊢; exact hsm.symm
            have HR1 := Lib.hid (HGO2.out hsm2)
            clear CZ HGO2 HS1 hsm hsm2
            refine ext_begin (by kernel_rfl) ?_
            have E0d := Lib.hid (Ext.drewR E0.out)
            refine ext_take (i := 0) (v := ?_) rfl (by kernel_rfl) (by kernel_rfl) (by kernel_rfl) (fun _ _ _ h => h) (by rfl) ?_ ?_
            rotate_left
            · intro W hW; have hW0 := Ext.trans E0d.out hW; clear hW; go_simp <;> with_reducible rfl
            try simp only [Act.put, List.setIfInBounds_toArray, List.set_cons_zero, List.set_cons_succ]
            refine ext_take (i := 1) (v := .bool false) rfl (by kernel_rfl) (by kernel_rfl) (by kernel_rfl) (fun _ _ _ h => h) (by rfl) ?_ ?_
            · intro W hW; have hW0 := Ext.trans E0d.out hW; clear hW; go_simp; all_goals (first | done | rfl)
            try simp only [Act.put, List.setIfInBounds_toArray, List.set_cons_zero, List.set_cons_succ]
            refine ext_take (i := 2) (v := ?_) rfl (by kernel_rfl) (by kernel_rfl) (by kernel_rfl) (fun _ _ _ h => h) (by rfl) ?_ ?_
            rotate_left
            · intro W hW; have hW0 := Ext.trans E0d.out hW; clear hW; go_simp <;> with_reducible rfl
            try simp only [Act.put, List.setIfInBounds_toArray, List.set_cons_zero, List.set_cons_succ]
            refine ext_take (i := 3) (v := ?_) rfl (by kernel_rfl) (by kernel_rfl) (by kernel_rfl) (fun _ _ _ h => h) (by rfl) ?_ ?_
            rotate_left
            · intro W hW; have hW0 := Ext.trans E0d.out hW; clear hW; go_simp <;> with_reducible rfl
            try simp only [Act.put, List.setIfInBounds_toArray, List.set_cons_zero, List.set_cons_succ]
            refine ext_take (i := 4) (v := ?_) rfl (by kernel_rfl) (by kernel_rfl) (by kernel_rfl) (fun _ _ _ h => h) (by rfl) ?_ ?_
            rotate_left
            · intro W hW; have hW0 := Ext.trans E0d.out hW; clear hW; go_simp <;> with_reducible rfl
            try simp only [Act.put, List.setIfInBounds_toArray, List.set_cons_zero, List.set_cons_succ]
            refine ext_take (i := 5) (v := ?_) rfl (by kernel_rfl) (by kernel_rfl) (by kernel_rfl) (fun _ _ _ h => h) (by rfl) ?_ ?_
            rotate_left
            · intro W hW; have hW0 := Ext.trans E0d.out hW; clear hW; go_simp <;> with_reducible rfl
            try simp only [Act.put, List.setIfInBounds_toArray, List.set_cons_zero, List.set_cons_succ]
            refine ext_take (i := 6) (v := ?_) rfl (by kernel_rfl) (by kernel_rfl) (by kernel_rfl) (fun _ _ _ h => h) (by rfl) ?_ ?_
            rotate_left
            · intro W hW; have hW0 := Ext.trans E0d.out hW; clear hW; go_simp <;> with_reducible rfl
            try simp only [Act.put, List.setIfInBounds_toArray, List.set_cons_zero, List.set_cons_succ]
            refine ext_take (i := 7) (v := ?_) rfl (by kernel_rfl) (by kernel_rfl) (by kernel_rfl) (fun _ _ _ h => h) (by rfl) ?_ ?_
            rotate_left
            · intro W hW; have hW0 := Ext.trans E0d.out hW; clear hW; go_simp <;> with_reducible rfl
            try simp only [Act.put, List.setIfInBounds_toArray, List.set_cons_zero, List.set_cons_succ]
            refine ext_take (i := 8) (v := ?_) rfl (by kernel_rfl) (by kernel_rfl) (by kernel_rfl) (fun _ _ _ h => h) (by rfl) ?_ ?_
            rotate_left
            · intro W hW; have hW0 := Ext.trans E0d.out hW; clear hW; go_simp <;> with_reducible rfl
            try simp only [Act.put, List.setIfInBounds_toArray, List.set_cons_zero, List.set_cons_succ]
            refine ext_take (i := 9) (v := ?_) rfl (by kernel_rfl) (by kernel_rfl) (by kernel_rfl) (fun _ _ _ h => h) (by rfl) ?_ ?_
            rotate_left
            · intro W hW; have hW0 := Ext.trans E0d.out hW; clear hW; go_simp <;> with_reducible rfl
            try simp only [Act.put, List.setIfInBounds_toArray, List.set_cons_zero, List.set_cons_succ]
            refine ext_take (i := 10) (v := ?_) rfl (by kernel_rfl) (by kernel_rfl) (by kernel_rfl) (fun _ _ _ h => h) (by rfl) ?_ ?_
            rotate_left
            · intro W hW; have hW0 := Ext.trans E0d.out hW; clear hW; go_simp <;> with_reducible rfl
            try simp only [Act.put, List.setIfInBounds_toArray, List.set_cons_zero, List.set_cons_succ]
            refine ext_take (i := 11) (v := ?_) rfl (by kernel_rfl) (by kernel_rfl) (by kernel_rfl) (fun _ _ _ h => h) (by rfl) ?_ ?_
            rotate_left
            · intro W hW; have hW0 := Ext.trans E0d.out hW; clear hW; go_simp <;> with_reducible rfl
            try simp only [Act.put, List.setIfInBounds_toArray, List.set_cons_zero, List.set_cons_succ]
            refine ext_take (i := 12) (v := ?_) rfl (by kernel_rfl) (by kernel_rfl) (by kernel_rfl) (fun _ _ _ h => h) (by rfl) ?_ ?_
            rotate_left
            · intro W hW; have hW0 := Ext.trans E0d.out hW; clear hW; go_simp <;> with_reducible rfl
            try simp only [Act.put, List.setIfInBounds_toArray, List.set_cons_zero, List.set_cons_succ]
            refine ext_take (i := 13) (v := ?_) rfl (by kernel_rfl) (by kernel_rfl) (by kernel_rfl) (fun _ _ _ h => h) (by rfl) ?_ ?_
            rotate_left
            · intro W hW; have hW0 := Ext.trans E0d.out hW; clear hW; go_simp <;> with_reducible rfl
            try simp only [Act.put, List.setIfInBounds_toArray, List.set_cons_zero, List.set_cons_succ]
            refine ext_take (i := 14) (v := ?_) rfl (by kernel_rfl) (by kernel_rfl) (by kernel_rfl) (fun _ _ _ h => h) (by rfl) ?_ ?_
            rotate_left
            · intro W hW; have hW0 := Ext.trans E0d.out hW; clear hW; go_simp <;> with_reducible rfl
            try simp only [Act.put, List.setIfInBounds_toArray, List.set_cons_zero, List.set_cons_succ]
            refine ext_take (i := 15) (v := ?_) rfl (by kernel_rfl) (by kernel_rfl) (by kernel_rfl) (fun _ _ _ h => h) (by rfl) ?_ ?_
            rotate_left
            · intro W hW; have hW0 := Ext.trans E0d.out hW; clear hW; go_simp <;> with_reducible rfl
            try simp only [Act.put, List.setIfInBounds_toArray, List.set_cons_zero, List.set_cons_succ]
            refine ext_call (i := 16) rfl (by kernel_rfl) (by rfl) (fun K' hK => ?_)
            go_simp
            (go_at_call 41; (with_reducible refine (CT.out _ E0d.out).mono ?_); rintro e w2 ⟨rfl, hx⟩; refine hK _ _ hx ?_; clear hK)
            have Ew2 := Lib.hid (Ext.trans E0d.out hx)
            clear hx
            try simp only [Act.put, List.setIfInBounds_toArray, List.set_cons_zero, List.set_cons_succ]
            refine ext_take (i := 17) (v := ?_) rfl (by kernel_rfl) (by kernel_rfl) (by kernel_rfl) (fun _ _ _ h => h) (by rfl) ?_ ?_
            rotate_left
            · intro W hW; have hW0 := Ext.trans Ew2.out hW; clear hW; go_simp <;> with_reducible rfl
            try simp only [Act.put, List.setIfInBounds_toArray, List.set_cons_zero, List.set_cons_succ]
            refine ext_take (i := 18) (v := ?_) rfl (by kernel_rfl) (by kernel_rfl) (by kernel_rfl) (fun _ _ _ h => h) (by rfl) ?_ ?_
            rotate_left
            · intro W hW; have hW0 := Ext.trans Ew2.out hW; clear hW; go_simp <;> with_reducible rfl
            try simp only [Act.put, List.setIfInBounds_toArray, List.set_cons_zero, List.set_cons_succ]
            refine wpAnyH_done (by kernel_rfl) ?_ _
            go_wp2
            go_roundw
            case rel => exact ⟨j + 1, _, G', by omega, by go_num, HR1.out, HP2.out.stay Ew2.out, Ext.trans X1.out Ew2.out⟩
            case measure => simp [intOf]; omega
          | false =>
            have CT := Lib.hid (CZ.out false hsm)
            have HD0 := Lib.hid (HS1.out (fun h => by rw [sameAc_iff] at h; rw [(sameAc_iff _ _).2 h.symm] at hsm; cases hsm))
            clear CZ HGO2 HS1 hsm
            refine ext_begin (by kernel_rfl) ?_
            have E0d := Lib.hid (Ext.drewR E0.out)
            refine ext_take (i := 0) (v := ?_) rfl (by kernel_rfl) (by kernel_rfl) (by kernel_rfl) (fun _ _ _ h => h) (by rfl) ?_ ?_
            rotate_left
            · intro W hW; have hW0 := Ext.trans E0d.out hW; clear hW; go_simp <;> with_reducible rfl
            try simp only [Act.put, List.setIfInBounds_toArray, List.set_cons_zero, List.set_cons_succ]
            refine ext_take (i := 1) (v := .bool false) rfl (by kernel_rfl) (by kernel_rfl) (by kernel_rfl) (fun _ _ _ h => h) (by rfl) ?_ ?_
            · intro W hW; have hW0 := Ext.trans E0d.out hW; clear hW; go_simp; all_goals (first | done | rfl)
            try simp only [Act.put, List.setIfInBounds_toArray, List.set_cons_zero, List.set_cons_succ]
            refine ext_take (i := 2) (v := ?_) rfl (by kernel_rfl) (by kernel_rfl) (by kernel_rfl) (fun _ _ _ h => h) (by rfl) ?_ ?_
            rotate_left
            · intro W hW; have hW0 := Ext.trans E0d.out hW; clear hW; go_simp <;> with_reducible rfl
            try simp only [Act.put, List.setIfInBounds_toArray, List.set_cons_zero, List.set_cons_succ]
            refine ext_take (i := 3) (v := ?_) rfl (by kernel_rfl) (by kernel_rfl) (by kernel_rfl) (fun _ _ _ h => h) (by rfl) ?_ ?_
            rotate_left
            · intro W hW; have hW0 := Ext.trans E0d.out hW; clear hW; go_simp <;> with_reducible rfl
            try simp only [Act.put, List.setIfInBounds_toArray, List.set_cons_zero, List.set_cons_succ]
            refine ext_take (i := 4) (v := ?_) rfl (by kernel_rfl) (by kernel_rfl) (by kernel_rfl) (fun _ _ _ h => h) (by rfl) ?_ ?_
            rotate_left
            · intro W hW; have hW0 := Ext.trans E0d.out hW; clear hW; go_simp <;> with_reducible rfl
            try simp only [Act.put, List.setIfInBounds_toArray, List.set_cons_zero, List.set_cons_succ]
            refine ext_take (i := 5) (v := ?_) rfl (by kernel_rfl) (by kernel_rfl) (by kernel_rfl) (fun _ _ _ h => h) (by rfl) ?_ ?_
            rotate_left
            · intro W hW; have hW0 := Ext.trans E0d.out hW; clear hW; go_simp <;> with_reducible rfl
            try simp only [Act.put, List.setIfInBounds_toArray, List.set_cons_zero, List.set_cons_succ]
            refine ext_take (i := 6) (v := ?_) rfl (by kernel_rfl) (by kernel_rfl) (by kernel_rfl) (fun _ _ _ h => h) (by rfl) ?_ ?_
            rotate_left
            · intro W hW; have hW0 := Ext.trans E0d.out hW; clear hW; go_simp <;> with_reducible rfl
            try simp only [Act.put, List.setIfInBounds_toArray, List.set_cons_zero, List.set_cons_succ]
            refine ext_take (i := 7) (v := ?_) rfl (by kernel_rfl) (by kernel_rfl) (by kernel_rfl) (fun _ _ _ h => h) (by rfl) ?_ ?_
            rotate_left
            · intro W hW; have hW0 := Ext.trans E0d.out hW; clear hW; go_simp <;> with_reducible rfl
            try simp only [Act.put, List.setIfInBounds_toArray, List.set_cons_zero, List.set_cons_succ]
            refine ext_take (i := 8) (v := ?_) rfl (by kernel_rfl) (by kernel_rfl) (by kernel_rfl) (fun _ _ _ h => h) (by rfl) ?_ ?_
            rotate_left
            · intro W hW; have hW0 := Ext.trans E0d.out hW; clear hW; go_simp <;> with_reducible rfl
            try simp only [Act.put, List.setIfInBounds_toArray, List.set_cons_zero, List.set_cons_succ]
            refine ext_take (i := 9) (v := ?_) rfl (by kernel_rfl) (by kernel_rfl) (by kernel_rfl) (fun _ _ _ h => h) (by rfl) ?_ ?_
            rotate_left
            · intro W hW; have hW0 := Ext.trans E0d.out hW; clear hW; go_simp <;> with_reducible rfl
            try simp only [Act.put, List.setIfInBounds_toArray, List.set_cons_zero, List.set_cons_succ]
            refine ext_take (i := 10) (v := ?_) rfl (by kernel_rfl) (by kernel_rfl) (by kernel_rfl) (fun _ _ _ h => h) (by rfl) ?_ ?_
            rotate_left
            · intro W hW; have hW0 := Ext.trans E0d.out hW; clear hW; go_simp <;> with_reducible rfl
            try simp only [Act.put, List.setIfInBounds_toArray, List.set_cons_zero, List.set_cons_succ]
            refine ext_take (i := 11) (v := ?_) rfl (by kernel_rfl) (by kernel_rfl) (by kernel_rfl) (fun _ _ _ h => h) (by rfl) ?_ ?_
            rotate_left
            · intro W hW; have hW0 := Ext.trans E0d.out hW; clear hW; go_simp <;> with_reducible rfl
            try simp only [Act.put, List.setIfInBounds_toArray, List.set_cons_zero, List.set_cons_succ]
            refine ext_take (i := 12) (v := ?_) rfl (by kernel_rfl) (by kernel_rfl) (by kernel_rfl) (fun _ _ _ h => h) (by rfl) ?_ ?_
            rotate_left
            · intro W hW; have hW0 := Ext.trans E0d.out hW; clear hW; go_simp <;> with_reducible rfl
            try simp only [Act.put, List.setIfInBounds_toArray, List.set_cons_zero, List.set_cons_succ]
            refine ext_take (i := 13) (v := ?_) rfl (by kernel_rfl) (by kernel_rfl) (by kernel_rfl) (fun _ _ _ h => h) (by rfl) ?_ ?_
            rotate_left
            · intro W hW; have hW0 := Ext.trans E0d.out hW; clear hW; go_simp <;> with_reducible rfl
            try simp only [Act.put, List.setIfInBounds_toArray, List.set_cons_zero, List.set_cons_succ]
            refine ext_take (i := 14) (v := ?_) rfl (by kernel_rfl) (by kernel_rfl) (by kernel_rfl) (fun _ _ _ h => h) (by rfl) ?_ ?_
            rotate_left
            · intro W hW; have hW0 := Ext.trans E0d.out hW; clear hW; go_simp <;> with_reducible rfl
            try simp only [Act.put, List.setIfInBounds_toArray, List.set_cons_zero, List.set_cons_succ]
            refine ext_take (i := 15) (v := ?_) rfl (by kernel_rfl) (by kernel_rfl) (by kernel_rfl) (fun _ _ _ h => h) (by rfl) ?_ ?_
            rotate_left
            · intro W hW; have hW0 := Ext.trans E0d.out hW; clear hW; go_simp <;> with_reducible rfl
            try simp only [Act.put, List.setIfInBounds_toArray, List.set_cons_zero, List.set_cons_succ]
            refine ext_call (i := 16) rfl (by kernel_rfl) (by rfl) (fun K' hK => ?_)
            go_simp
            (go_at_call 41; (with_reducible refine (CT.out _ E0d.out).mono ?_); rintro e w2 ⟨rfl, hx⟩; refine hK _ _ hx ?_; clear hK)
            have Ew2 := Lib.hid (Ext.trans E0d.out hx)
            clear hx
            try simp only [Act.put, List.setIfInBounds_toArray, List.set_cons_zero, List.set_cons_succ]
            refine ext_take (i := 17) (v := ?_) rfl (by kernel_rfl) (by kernel_rfl) (by kernel_rfl) (fun _ _ _ h => h) (by rfl) ?_ ?_
            rotate_left
            · intro W hW; have hW0 := Ext.trans Ew2.out hW; clear hW; go_simp <;> with_reducible rfl
            try simp only [Act.put, List.setIfInBounds_toArray, List.set_cons_zero, List.set_cons_succ]
            refine ext_take (i := 18) (v := ?_) rfl (by kernel_rfl) (by kernel_rfl) (by kernel_rfl) (fun _ _ _ h => h) (by rfl) ?_ ?_
            rotate_left
            · intro W hW; have hW0 := Ext.trans Ew2.out hW; clear hW; go_simp <;> with_reducible rfl
            try simp only [Act.put, List.setIfInBounds_toArray, List.set_cons_zero, List.set_cons_succ]
            refine wpAnyH_done (by kernel_rfl) ?_ _
            go_wp2
            try go_ret
            exact hD.out _ _ ⟨by first | (rw [HD0.out]; done) | (rw [HD0.out]; rfl), Ext.trans X1.out Ew2.out⟩
        · have HD0 := Lib.hid (HS.out (fun h => hE h.1))
          have hE1 : (E == 0) = false := by simp [hE]
          go_wp2_with (go_at_call 13; go_loud (rw [← HW.out]; (with_reducible refine CA.out.mono ?_); rintro e w1 ⟨rfl, hout⟩; have HOUT := Lib.hid hout; rw [← HG.out]; clear hout))
          obtain ⟨G', hP', hF', hG'⟩ := HOUT.out
          have E0 := Lib.hid (HFR.out w1 hF').2
          clear hP' hF' hG'
          refine ext_begin (by kernel_rfl) ?_
          have E0d := Lib.hid (Ext.drewR E0.out)
          refine ext_take (i := 0) (v := ?_) rfl (by kernel_rfl) (by kernel_rfl) (by kernel_rfl) (fun _ _ _ h => h) (by rfl) ?_ ?_
          rotate_left
          · intro W hW; have hW0 := Ext.trans E0d.out hW; clear hW; go_simp <;> with_reducible rfl
          try simp only [Act.put, List.setIfInBounds_toArray, List.set_cons_zero, List.set_cons_succ]
          refine ext_take (i := 1) (v := .bool true) rfl (by kernel_rfl) (by kernel_rfl) (by kernel_rfl) (fun _ _ _ h => h) (by rfl) ?_ ?_
          · intro W hW; have hW0 := Ext.trans E0d.out hW; clear hW; go_simp; all_goals (first | done | (simp [hE]; done))
          try simp only [Act.put, List.setIfInBounds_toArray, List.set_cons_zero, List.set_cons_succ]
          refine ext_take (i := 2) (v := ?_) rfl (by kernel_rfl) (by kernel_rfl) (by kernel_rfl) (fun _ _ _ h => h) (by rfl) ?_ ?_
          rotate_left
          · intro W hW; have hW0 := Ext.trans E0d.out hW; clear hW; go_simp <;> with_reducible rfl
          try simp only [Act.put, List.setIfInBounds_toArray, List.set_cons_zero, List.set_cons_succ]
          refine ext_skip (i := 3) rfl (by kernel_rfl) (by kernel_rfl) (by kernel_rfl) (fun _ _ _ h => h) (by rfl) ?_
          try simp only [Act.put, List.setIfInBounds_toArray, List.set_cons_zero, List.set_cons_succ]
          refine ext_skip (i := 4) rfl (by kernel_rfl) (by kernel_rfl) (by kernel_rfl) (fun _ _ _ h => h) (by rfl) ?_
          try simp only [Act.put, List.setIfInBounds_toArray, List.set_cons_zero, List.set_cons_succ]
          refine ext_skip (i := 5) rfl (by kernel_rfl) (by kernel_rfl) (by kernel_rfl) (fun _ _ _ h => h) (by rfl) ?_
          try simp only [Act.put, List.setIfInBounds_toArray, List.set_cons_zero, List.set_cons_succ]
          refine ext_skip (i := 6) rfl (by kernel_rfl) (by kernel_rfl) (by kernel_rfl) (fun _ _ _ h => h) (by rfl) ?_
          try simp only [Act.put, List.setIfInBounds_toArray, List.set_cons_zero, List.set_cons_succ]
          refine ext_skip (i := 7) rfl (by kernel_rfl) (by kernel_rfl) (by kernel_rfl) (fun _ _ _ h => h) (by rfl) ?_
          try simp only [Act.put, List.setIfInBounds_toArray, List.set_cons_zero, List.set_cons_succ]
          refine ext_skip (i := 8) rfl (by kernel_rfl) (by kernel_rfl) (by kernel_rfl) (fun _ _ _ h => h) (by rfl) ?_
          try simp only [Act.put, List.setIfInBounds_toArray, List.set_cons_zero, List.set_cons_succ]
          refine ext_skip (i := 9) rfl (by kernel_rfl) (by kernel_rfl) (by kernel_rfl) (fun _ _ _ h => h) (by rfl) ?_
          try simp only [Act.put, List.setIfInBounds_toArray, List.set_cons_zero, List.set_cons_succ]
          refine ext_skip (i := 10) rfl (by kernel_rfl) (by kernel_rfl) (by kernel_rfl) (fun _ _ _ h => h) (by rfl) ?_
          try simp only [Act.put, List.setIfInBounds_toArray, List.set_cons_zero, List.set_cons_succ]
          refine ext_skip (i := 11) rfl (by kernel_rfl) (by kernel_rfl) (by kernel_rfl) (fun _ _ _ h => h) (by rfl) ?_
          try simp only [Act.put, List.setIfInBounds_toArray, List.set_cons_zero, List.set_cons_succ]
          refine ext_skip (i := 12) rfl (by kernel_rfl) (by kernel_rfl) (by kernel_rfl) (fun _ _ _ h => h) (by rfl) ?_
          try simp only [Act.put, List.setIfInBounds_toArray, List.set_cons_zero, List.set_cons_succ]
          refine ext_skip (i := 13) rfl (by kernel_rfl) (by kernel_rfl) (by kernel_rfl) (fun _ _ _ h => h) (by rfl) ?_
          try simp only [Act.put, List.setIfInBounds_toArray, List.set_cons_zero, List.set_cons_succ]
          refine ext_skip (i := 14) rfl (by kernel_rfl) (by kernel_rfl) (by kernel_rfl) (fun _ _ _ h => h) (by rfl) ?_
          try simp only [Act.put, List.setIfInBounds_toArray, List.set_cons_zero, List.set_cons_succ]
          refine ext_skip (i := 15) rfl (by kernel_rfl) (by kernel_rfl) (by kernel_rfl) (fun _ _ _ h => h) (by rfl) ?_
          try simp only [Act.put, List.setIfInBounds_toArray, List.set_cons_zero, List.set_cons_succ]
          refine ext_skip (i := 16) rfl (by kernel_rfl) (by kernel_rfl) (by kernel_rfl) (fun _ _ _ h => h) (by rfl) ?_
          try simp only [Act.put, List.setIfInBounds_toArray, List.set_cons_zero, List.set_cons_succ]
          refine ext_skip (i := 17) rfl (by kernel_rfl) (by kernel_rfl) (by kernel_rfl) (fun _ _ _ h => h) (by rfl) ?_
          try simp only [Act.put, List.setIfInBounds_toArray, List.set_cons_zero, List.set_cons_succ]
          refine ext_take (i := 18) (v := ?_) rfl (by kernel_rfl) (by kernel_rfl) (by kernel_rfl) (fun _ _ _ h => h) (by rfl) ?_ ?_
          rotate_left
          · intro W hW; have hW0 := Ext.trans E0d.out hW; clear hW; go_simp <;> with_reducible rfl
          try simp only [Act.put, List.setIfInBounds_toArray, List.set_cons_zero, List.set_cons_succ]
          refine wpAnyH_done (by kernel_rfl) ?_ _
          go_wp2
          try go_ret
          exact hD.out _ _ ⟨by first | (rw [HD0.out]; done) | (rw [HD0.out]; rfl), E0d.out⟩
      | false =>
        obtain ⟨w0, hw0⟩ : ∃ w0, w0 = wr.alloc (.cells #[.int .i64 cl, .int .i64 sq, .bool false, .int .i64 qc, .int .i64 qs, .int .i64 qk, .int .i64 qi, .int .i64 qm, .string qd, .int .i64 rc, .int .i64 rv, .string rd, .slice tA rn tc, .int .i64 at9] 50) := ⟨_, rfl⟩
        have hb0 : Ext wr w0 := by rw [hw0]; exact Ext.alloc _ _
        have KR : Hid (Blk w0 g 50 #[.int .i64 cl, .int .i64 sq, .bool false, .int .i64 qc, .int .i64 qs, .int .i64 qk, .int .i64 qi, .int .i64 qm, .string qd, .int .i64 rc, .int .i64 rv, .string rd, .slice tA rn tc, .int .i64 at9]) := by show Blk _ _ _ _; rw [hw0, hg]; exact Blk.new _ _ _
        have heq : stE st ⟨cl, sq, false, ⟨qc, qs, qk, qi, qm, qd⟩, ⟨rc, rv, rd, rl⟩, at9⟩ = askE st ⟨qc, qs, qk, qi, qm, qd⟩ := by unfold stE; simp
        have heqn : (if stE st ⟨cl, sq, false, ⟨qc, qs, qk, qi, qm, qd⟩, ⟨rc, rv, rd, rl⟩, at9⟩ = 0 then stS st ⟨cl, sq, false, ⟨qc, qs, qk, qi, qm, qd⟩, ⟨rc, rv, rd, rl⟩, at9⟩ else st) = askN st ⟨qc, qs, qk, qi, qm, qd⟩ := by unfold askN; rw [heq]; unfold stS; simp
        have CA : Hid (Calls Try.prog 11 #[.pointer (some ⟨P, 0, none⟩), .agg #[.int .i64 qc, .int .i64 qs, .int .i64 qk, .int .i64 qi, .int .i64 qm, .string qd]] w0 fun e w' => e = .returned (.int .i64 (stE st ⟨cl, sq, false, ⟨qc, qs, qk, qi, qm, qd⟩, ⟨rc, rv, rd, rl⟩, at9⟩)) ∧ POut w0 w' P P G (if stE st ⟨cl, sq, false, ⟨qc, qs, qk, qi, qm, qd⟩, ⟨rc, rv, rd, rl⟩, at9⟩ = 0 then stS st ⟨cl, sq, false, ⟨qc, qs, qk, qi, qm, qd⟩, ⟨rc, rv, rd, rl⟩, at9⟩ else st)) := by
          have hsl : st.acts.length ≤ 1000000 := HSL.out
          have h7 := ask_any P P G st qc qs qk qi qm qd w0 (HPA.out.stay hb0) HK.out hqd hsl
          skip
          rw [heqn, heq]
          exact h7
        have HS : Hid ((stE st ⟨cl, sq, false, ⟨qc, qs, qk, qi, qm, qd⟩, ⟨rc, rv, rd, rl⟩, at9⟩ = 0 ∧ sameAc (stA st ⟨cl, sq, false, ⟨qc, qs, qk, qi, qm, qd⟩, ⟨rc, rv, rd, rl⟩, at9⟩) ⟨cl, sq, false, ⟨qc, qs, qk, qi, qm, qd⟩, ⟨rc, rv, rd, rl⟩, at9⟩ = true → False) → decide (mayF (L.map At.x)) = false) := fun h => by
          rw [decide_eq_false_iff_not]
          refine may_not (j := j + 1) ?_
          rw [HSTEP.out, if_neg h]
        have HGO : Hid (stE st ⟨cl, sq, false, ⟨qc, qs, qk, qi, qm, qd⟩, ⟨rc, rv, rd, rl⟩, at9⟩ = 0 → sameAc (stA st ⟨cl, sq, false, ⟨qc, qs, qk, qi, qm, qd⟩, ⟨rc, rv, rd, rl⟩, at9⟩) ⟨cl, sq, false, ⟨qc, qs, qk, qi, qm, qd⟩, ⟨rc, rv, rd, rl⟩, at9⟩ = true → runF .init ((L.map At.x).take (j + 1)) = some (stS st ⟨cl, sq, false, ⟨qc, qs, qk, qi, qm, qd⟩, ⟨rc, rv, rd, rl⟩, at9⟩)) := fun h1 h2 => by
          rw [HSTEP.out, if_pos ⟨h1, h2⟩]
        have HOKS : Hid (stE st ⟨cl, sq, false, ⟨qc, qs, qk, qi, qm, qd⟩, ⟨rc, rv, rd, rl⟩, at9⟩ = 0 → PsOk (stS st ⟨cl, sq, false, ⟨qc, qs, qk, qi, qm, qd⟩, ⟨rc, rv, rd, rl⟩, at9⟩)) := fun h1 => stS_ok HK.out h1
        have HAS : Hid ((stS st ⟨cl, sq, false, ⟨qc, qs, qk, qi, qm, qd⟩, ⟨rc, rv, rd, rl⟩, at9⟩).acts = st.acts ++ [stA st ⟨cl, sq, false, ⟨qc, qs, qk, qi, qm, qd⟩, ⟨rc, rv, rd, rl⟩, at9⟩]) := stS_acts _ _
        have HX0 : Hid (Ext w w0) := Ext.trans HX.out hb0
        have HFR : Hid (∀ w1, Frm (Psel P G) w0 w1 → Blk w1 g 50 #[.int .i64 cl, .int .i64 sq, .bool false, .int .i64 qc, .int .i64 qs, .int .i64 qk, .int .i64 qi, .int .i64 qm, .string qd, .int .i64 rc, .int .i64 rv, .string rd, .slice tA rn tc, .int .i64 at9] ∧ Ext w w1) := fun w1 hF => by
          refine ⟨KR.out.frm hF ?_, Frm.step HX0.out hF HX0.out.size (fun k hk => by rw [← HPW.out]; exact (HPA.out.sel k hk).1)⟩
          intro hk
          obtain ⟨_, cs, h⟩ := HPA.out.sel g hk
          rcases h with h | h <;> have := h.lt <;> omega
        have HW := Lib.hid hw0
        have HG := Lib.hid hg
        have HST := Lib.hid hst
        clear hb0 hw0 heq heqn hst hg
        generalize stE st ⟨cl, sq, false, ⟨qc, qs, qk, qi, qm, qd⟩, ⟨rc, rv, rd, rl⟩, at9⟩ = E at *
        by_cases hE : E = 0
        · subst hE
          go_wp2_with (go_at_call 11; go_loud (rw [← HW.out]; (with_reducible refine CA.out.mono ?_); rintro e w1 ⟨rfl, hout⟩; have HOUT := Lib.hid hout; rw [← HG.out]; clear hout))
          obtain ⟨G', hP', hF', hG'⟩ := HOUT.out
          obtain ⟨hB1, hX1⟩ := HFR.out w1 hF'
          rw [if_pos trivial] at hP'
          have hP'2 := hP'
          obtain ⟨_, v, l0, l1, l2, l3, p0, p1, p2, p3, o0, o1, o2, o3, L', kP, _, _, _, hown, _, hL', hin⟩ := hP'
          obtain ⟨_, A', cap', rfl, hcap', hacs⟩ := ownA_view hown (fun t ht => (hin t ht).sl)
          have hLL : L'.length = st.acts.length + 1 := by
            have h5 := congrArg List.length hL'
            rw [HAS.out, List.length_map, List.length_append] at h5
            simpa using h5
          obtain ⟨m, hm⟩ : ∃ m, m = st.acts.length := ⟨_, rfl⟩
          rw [← hm] at hLL
          obtain ⟨t', ht'⟩ : ∃ t', L'[m]? = some t' := ⟨_, List.getElem?_eq_getElem (by omega)⟩
          have hx' : t'.x = stA st ⟨cl, sq, false, ⟨qc, qs, qk, qi, qm, qd⟩, ⟨rc, rv, rd, rl⟩, at9⟩ := by
            have h5 := congrArg (fun l => l[m]?) hL'
            simp only [List.getElem?_map, ht', HAS.out, Option.map_some] at h5
            rw [List.getElem?_append_right (by omega), hm, Nat.sub_self] at h5
            simpa using h5
          obtain ⟨b', o', rfl, hc', hsa'⟩ := hacs m t' ht'
          obtain ⟨tx', tA', tc'⟩ := t'
          obtain ⟨cl', sq', ans', ⟨qc', qs', qk', qi', qm', qd'⟩, ⟨rc', rv', rd', rl'⟩, at9'⟩ := tx'
          simp only at hx' hc' hsa'
          obtain ⟨rn', hrn'⟩ : ∃ r, r = rl'.length := ⟨_, rfl⟩
          have hrl' : rl'.length ≤ 17592186043904 := by
            have h5 := congrArg (fun z => z.r.l) hx'
            unfold stA at h5
            simp [Rpv.zero] at h5
            rw [h5]
            decide
          have CS : Hid (∀ V, Ext w1 V → Calls Try.prog 41 #[.agg #[.int .i64 cl, .int .i64 sq, .bool false, .int .i64 qc, .int .i64 qs, .int .i64 qk, .int .i64 qi, .int .i64 qm, .string qd, .int .i64 rc, .int .i64 rv, .string rd, .slice tA rn tc, .int .i64 at9], .agg #[.int .i64 cl', .int .i64 sq', .bool ans', .int .i64 qc', .int .i64 qs', .int .i64 qk', .int .i64 qi', .int .i64 qm', .string qd', .int .i64 rc', .int .i64 rv', .string rd', .slice tA' rn' tc', .int .i64 at9']] V fun e w' => e = .returned (.bool (sameAc ⟨cl, sq, false, ⟨qc, qs, qk, qi, qm, qd⟩, ⟨rc, rv, rd, rl⟩, at9⟩ ⟨cl', sq', ans', ⟨qc', qs', qk', qi', qm', qd'⟩, ⟨rc', rv', rd', rl'⟩, at9'⟩)) ∧ Ext V w') := fun V h => by
            have h7 := pastSame_any cl sq false qc qs qk qi qm qd rc rv rd rl at9 cl' sq' ans' qc' qs' qk' qi' qm' qd' rc' rv' rd' rl' at9' tA tA' tc tc' V (by omega) (by omega) ((HSA0.out.stay hX1).stay h) (hsa'.stay h)
            rw [← HRN.out, ← hrn'] at h7
            exact h7
          have CZ : Hid (∀ b, sameAc ⟨cl, sq, false, ⟨qc, qs, qk, qi, qm, qd⟩, ⟨rc, rv, rd, rl⟩, at9⟩ ⟨cl', sq', ans', ⟨qc', qs', qk', qi', qm', qd'⟩, ⟨rc', rv', rd', rl'⟩, at9'⟩ = b → ∀ V, Ext w1 V → Calls Try.prog 41 #[.agg #[.int .i64 cl, .int .i64 sq, .bool false, .int .i64 qc, .int .i64 qs, .int .i64 qk, .int .i64 qi, .int .i64 qm, .string qd, .int .i64 rc, .int .i64 rv, .string rd, .slice tA rn tc, .int .i64 at9], .agg #[.int .i64 cl', .int .i64 sq', .bool ans', .int .i64 qc', .int .i64 qs', .int .i64 qk', .int .i64 qi', .int .i64 qm', .string qd', .int .i64 rc', .int .i64 rv', .string rd', .slice tA' rn' tc', .int .i64 at9']] V fun e w' => e = .returned (.bool b) ∧ Ext V w') := fun b hb => by rw [← hb]; exact CS.out
          have X1 := Lib.hid hX1
          have HX' := Lib.hid hx'
          have E0 : Hid (Ext w1 w1) := Ext.refl _
          have HP2 := Lib.hid hP'2
          have HGO1 := HGO.out trivial
          have HOK1 := Lib.hid (HOKS.out trivial)
          have HS1 : Hid (¬ sameAc ⟨cl', sq', ans', ⟨qc', qs', qk', qi', qm', qd'⟩, ⟨rc', rv', rd', rl'⟩, at9'⟩ ⟨cl, sq, false, ⟨qc, qs, qk, qi, qm, qd⟩, ⟨rc, rv, rd, rl⟩, at9⟩ = true → decide (mayF (L.map At.x)) = false) := fun h => HS.out (fun h2 => h (by rw [hx']; exact h2.2))
          have HGO2 : Hid (sameAc ⟨cl', sq', ans', ⟨qc', qs', qk', qi', qm', qd'⟩, ⟨rc', rv', rd', rl'⟩, at9'⟩ ⟨cl, sq, false, ⟨qc, qs, qk, qi, qm, qd⟩, ⟨rc, rv, rd, rl⟩, at9⟩ = true → runF .init ((L.map At.x).take (j + 1)) = some (stS st ⟨cl, sq, false, ⟨qc, qs, qk, qi, qm, qd⟩, ⟨rc, rv, rd, rl⟩, at9⟩)) := fun h => HGO1 (by rw [← hx']; exact h)
          have d0 : w1.cell? _ = some (.int .i64 cl') := hc' 0 (by decide)
          have e0 := hB1.cell 0
          have d1 : w1.cell? _ = some (.int .i64 sq') := hc' 1 (by decide)
          have e1 := hB1.cell 1
          have d2 : w1.cell? _ = some (.bool ans') := hc' 2 (by decide)
          have e2 := hB1.cell 2
          have d3 : w1.cell? _ = some (.int .i64 qc') := hc' 3 (by decide)
          have e3 := hB1.cell 3
          have d4 : w1.cell? _ = some (.int .i64 qs') := hc' 4 (by decide)
          have e4 := hB1.cell 4
          have d5 : w1.cell? _ = some (.int .i64 qk') := hc' 5 (by decide)
          have e5 := hB1.cell 5
          have d6 : w1.cell? _ = some (.int .i64 qi') := hc' 6 (by decide)
          have e6 := hB1.cell 6
          have d7 : w1.cell? _ = some (.int .i64 qm') := hc' 7 (by decide)
          have e7 := hB1.cell 7
          have d8 : w1.cell? _ = some (.string qd') := hc' 8 (by decide)
          have e8 := hB1.cell 8
          have d9 : w1.cell? _ = some (.int .i64 rc') := hc' 9 (by decide)
          have e9 := hB1.cell 9
          have d10 : w1.cell? _ = some (.int .i64 rv') := hc' 10 (by decide)
          have e10 := hB1.cell 10
          have d11 : w1.cell? _ = some (.string rd') := hc' 11 (by decide)
          have e11 := hB1.cell 11
          have d12 : w1.cell? _ = some (.slice tA' rl'.length tc') := hc' 12 (by decide)
          have e12 := hB1.cell 12
          have d13 : w1.cell? _ = some (.int .i64 at9') := hc' 13 (by decide)
          have e13 := hB1.cell 13
          simp at e0 e1 e2 e3 e4 e5 e6 e7 e8 e9 e10 e11 e12 e13
          rw [← hrn'] at d12
          simp only [Nat.add_zero] at d0
          have kv := kP.cell 0
          simp at kv
          rw [hLL] at kv
          have y0 : ∀ W, Ext w1 W → W.cell? _ = _ := fun W h => cell_stay h e0
          have x0 : ∀ W, Ext w1 W → W.cell? _ = _ := fun W h => cell_stay h d0
          have y1 : ∀ W, Ext w1 W → W.cell? _ = _ := fun W h => cell_stay h e1
          have x1 : ∀ W, Ext w1 W → W.cell? _ = _ := fun W h => cell_stay h d1
          have y2 : ∀ W, Ext w1 W → W.cell? _ = _ := fun W h => cell_stay h e2
          have x2 : ∀ W, Ext w1 W → W.cell? _ = _ := fun W h => cell_stay h d2
          have y3 : ∀ W, Ext w1 W → W.cell? _ = _ := fun W h => cell_stay h e3
          have x3 : ∀ W, Ext w1 W → W.cell? _ = _ := fun W h => cell_stay h d3
          have y4 : ∀ W, Ext w1 W → W.cell? _ = _ := fun W h => cell_stay h e4
          have x4 : ∀ W, Ext w1 W → W.cell? _ = _ := fun W h => cell_stay h d4
          have y5 : ∀ W, Ext w1 W → W.cell? _ = _ := fun W h => cell_stay h e5
          have x5 : ∀ W, Ext w1 W → W.cell? _ = _ := fun W h => cell_stay h d5
          have y6 : ∀ W, Ext w1 W → W.cell? _ = _ := fun W h => cell_stay h e6
          have x6 : ∀ W, Ext w1 W → W.cell? _ = _ := fun W h => cell_stay h d6
          have y7 : ∀ W, Ext w1 W → W.cell? _ = _ := fun W h => cell_stay h e7
          have x7 : ∀ W, Ext w1 W → W.cell? _ = _ := fun W h => cell_stay h d7
          have y8 : ∀ W, Ext w1 W → W.cell? _ = _ := fun W h => cell_stay h e8
          have x8 : ∀ W, Ext w1 W → W.cell? _ = _ := fun W h => cell_stay h d8
          have y9 : ∀ W, Ext w1 W → W.cell? _ = _ := fun W h => cell_stay h e9
          have x9 : ∀ W, Ext w1 W → W.cell? _ = _ := fun W h => cell_stay h d9
          have y10 : ∀ W, Ext w1 W → W.cell? _ = _ := fun W h => cell_stay h e10
          have x10 : ∀ W, Ext w1 W → W.cell? _ = _ := fun W h => cell_stay h d10
          have y11 : ∀ W, Ext w1 W → W.cell? _ = _ := fun W h => cell_stay h e11
          have x11 : ∀ W, Ext w1 W → W.cell? _ = _ := fun W h => cell_stay h d11
          have y12 : ∀ W, Ext w1 W → W.cell? _ = _ := fun W h => cell_stay h e12
          have x12 : ∀ W, Ext w1 W → W.cell? _ = _ := fun W h => cell_stay h d12
          have y13 : ∀ W, Ext w1 W → W.cell? _ = _ := fun W h => cell_stay h e13
          have x13 : ∀ W, Ext w1 W → W.cell? _ = _ := fun W h => cell_stay h d13
          have y14 : ∀ W, Ext w1 W → W.cell? _ = _ := fun W h => cell_stay h kv
          have hmm : (m : Int) < (m : Int) + 1 := by omega
          have hm0 : (0 : Int) ≤ (m : Int) := by omega
          have hmw : IntKind.i64.wrap (m : Int) = (m : Int) := IntWalk.i64_in _ (by have := HSL.out; omega)
          clear hP'2 HGO1 hX1 hB1 hx' hc' hsa' hacs kP hown hin hL' hF' hG' ht' hrn' CS hm hrl' hcap' e0 d0 e1 d1 e2 d2 e3 d3 e4 d4 e5 d5 e6 d6 e7 d7 e8 d8 e9 d9 e10 d10 e11 d11 e12 d12 e13 d13 kv
          clear c0 c1 c2 c3 c4 c5 c6 c7 c8 c9 c10 c11 c12 c13
          cases hsm : sameAc ⟨cl, sq, false, ⟨qc, qs, qk, qi, qm, qd⟩, ⟨rc, rv, rd, rl⟩, at9⟩ ⟨cl', sq', ans', ⟨qc', qs', qk', qi', qm', qd'⟩, ⟨rc', rv', rd', rl'⟩, at9'⟩ with
          | true =>
            have CT := Lib.hid (CZ.out true hsm)
            have hsm2 : sameAc ⟨cl', sq', ans', ⟨qc', qs', qk', qi', qm', qd'⟩, ⟨rc', rv', rd', rl'⟩, at9'⟩ ⟨cl, sq, false, ⟨qc, qs, qk, qi, qm, qd⟩, ⟨rc, rv, rd, rl⟩, at9⟩ = true := by rw [sameAc_iff] at hsm ⊢; exact hsm.symm
            have HR1 := Lib.hid (HGO2.out hsm2)
            clear CZ HGO2 HS1 hsm hsm2
            refine ext_begin (by kernel_rfl) ?_
            have E0d := Lib.hid (Ext.drewR E0.out)
            refine ext_take (i := 0) (v := ?_) rfl (by kernel_rfl) (by kernel_rfl) (by kernel_rfl) (fun _ _ _ h => h) (by rfl) ?_ ?_
            rotate_left
            · intro W hW; have hW0 := Ext.trans E0d.out hW; clear hW; go_simp <;> with_reducible rfl
            try simp only [Act.put, List.setIfInBounds_toArray, List.set_cons_zero, List.set_cons_succ]
            refine ext_take (i := 1) (v := .bool false) rfl (by kernel_rfl) (by kernel_rfl) (by kernel_rfl) (fun _ _ _ h => h) (by rfl) ?_ ?_
            · intro W hW; have hW0 := Ext.trans E0d.out hW; clear hW; go_simp; all_goals (first | done | rfl)
            try simp only [Act.put, List.setIfInBounds_toArray, List.set_cons_zero, List.set_cons_succ]
            refine ext_take (i := 2) (v := ?_) rfl (by kernel_rfl) (by kernel_rfl) (by kernel_rfl) (fun _ _ _ h => h) (by rfl) ?_ ?_
            rotate_left
            · intro W hW; have hW0 := Ext.trans E0d.out hW; clear hW; go_simp <;> with_reducible rfl
            try simp only [Act.put, List.setIfInBounds_toArray, List.set_cons_zero, List.set_cons_succ]
            refine ext_take (i := 3) (v := ?_) rfl (by kernel_rfl) (by kernel_rfl) (by kernel_rfl) (fun _ _ _ h => h) (by rfl) ?_ ?_
            rotate_left
            · intro W hW; have hW0 := Ext.trans E0d.out hW; clear hW; go_simp <;> with_reducible rfl
            try simp only [Act.put, List.setIfInBounds_toArray, List.set_cons_zero, List.set_cons_succ]
            refine ext_take (i := 4) (v := ?_) rfl (by kernel_rfl) (by kernel_rfl) (by kernel_rfl) (fun _ _ _ h => h) (by rfl) ?_ ?_
            rotate_left
            · intro W hW; have hW0 := Ext.trans E0d.out hW; clear hW; go_simp <;> with_reducible rfl
            try simp only [Act.put, List.setIfInBounds_toArray, List.set_cons_zero, List.set_cons_succ]
            refine ext_take (i := 5) (v := ?_) rfl (by kernel_rfl) (by kernel_rfl) (by kernel_rfl) (fun _ _ _ h => h) (by rfl) ?_ ?_
            rotate_left
            · intro W hW; have hW0 := Ext.trans E0d.out hW; clear hW; go_simp <;> with_reducible rfl
            try simp only [Act.put, List.setIfInBounds_toArray, List.set_cons_zero, List.set_cons_succ]
            refine ext_take (i := 6) (v := ?_) rfl (by kernel_rfl) (by kernel_rfl) (by kernel_rfl) (fun _ _ _ h => h) (by rfl) ?_ ?_
            rotate_left
            · intro W hW; have hW0 := Ext.trans E0d.out hW; clear hW; go_simp <;> with_reducible rfl
            try simp only [Act.put, List.setIfInBounds_toArray, List.set_cons_zero, List.set_cons_succ]
            refine ext_take (i := 7) (v := ?_) rfl (by kernel_rfl) (by kernel_rfl) (by kernel_rfl) (fun _ _ _ h => h) (by rfl) ?_ ?_
            rotate_left
            · intro W hW; have hW0 := Ext.trans E0d.out hW; clear hW; go_simp <;> with_reducible rfl
            try simp only [Act.put, List.setIfInBounds_toArray, List.set_cons_zero, List.set_cons_succ]
            refine ext_take (i := 8) (v := ?_) rfl (by kernel_rfl) (by kernel_rfl) (by kernel_rfl) (fun _ _ _ h => h) (by rfl) ?_ ?_
            rotate_left
            · intro W hW; have hW0 := Ext.trans E0d.out hW; clear hW; go_simp <;> with_reducible rfl
            try simp only [Act.put, List.setIfInBounds_toArray, List.set_cons_zero, List.set_cons_succ]
            refine ext_take (i := 9) (v := ?_) rfl (by kernel_rfl) (by kernel_rfl) (by kernel_rfl) (fun _ _ _ h => h) (by rfl) ?_ ?_
            rotate_left
            · intro W hW; have hW0 := Ext.trans E0d.out hW; clear hW; go_simp <;> with_reducible rfl
            try simp only [Act.put, List.setIfInBounds_toArray, List.set_cons_zero, List.set_cons_succ]
            refine ext_take (i := 10) (v := ?_) rfl (by kernel_rfl) (by kernel_rfl) (by kernel_rfl) (fun _ _ _ h => h) (by rfl) ?_ ?_
            rotate_left
            · intro W hW; have hW0 := Ext.trans E0d.out hW; clear hW; go_simp <;> with_reducible rfl
            try simp only [Act.put, List.setIfInBounds_toArray, List.set_cons_zero, List.set_cons_succ]
            refine ext_take (i := 11) (v := ?_) rfl (by kernel_rfl) (by kernel_rfl) (by kernel_rfl) (fun _ _ _ h => h) (by rfl) ?_ ?_
            rotate_left
            · intro W hW; have hW0 := Ext.trans E0d.out hW; clear hW; go_simp <;> with_reducible rfl
            try simp only [Act.put, List.setIfInBounds_toArray, List.set_cons_zero, List.set_cons_succ]
            refine ext_take (i := 12) (v := ?_) rfl (by kernel_rfl) (by kernel_rfl) (by kernel_rfl) (fun _ _ _ h => h) (by rfl) ?_ ?_
            rotate_left
            · intro W hW; have hW0 := Ext.trans E0d.out hW; clear hW; go_simp <;> with_reducible rfl
            try simp only [Act.put, List.setIfInBounds_toArray, List.set_cons_zero, List.set_cons_succ]
            refine ext_take (i := 13) (v := ?_) rfl (by kernel_rfl) (by kernel_rfl) (by kernel_rfl) (fun _ _ _ h => h) (by rfl) ?_ ?_
            rotate_left
            · intro W hW; have hW0 := Ext.trans E0d.out hW; clear hW; go_simp <;> with_reducible rfl
            try simp only [Act.put, List.setIfInBounds_toArray, List.set_cons_zero, List.set_cons_succ]
            refine ext_take (i := 14) (v := ?_) rfl (by kernel_rfl) (by kernel_rfl) (by kernel_rfl) (fun _ _ _ h => h) (by rfl) ?_ ?_
            rotate_left
            · intro W hW; have hW0 := Ext.trans E0d.out hW; clear hW; go_simp <;> with_reducible rfl
            try simp only [Act.put, List.setIfInBounds_toArray, List.set_cons_zero, List.set_cons_succ]
            refine ext_take (i := 15) (v := ?_) rfl (by kernel_rfl) (by kernel_rfl) (by kernel_rfl) (fun _ _ _ h => h) (by rfl) ?_ ?_
            rotate_left
            · intro W hW; have hW0 := Ext.trans E0d.out hW; clear hW; go_simp <;> with_reducible rfl
            try simp only [Act.put, List.setIfInBounds_toArray, List.set_cons_zero, List.set_cons_succ]
            refine ext_call (i := 16) rfl (by kernel_rfl) (by rfl) (fun K' hK => ?_)
            go_simp
            (go_at_call 41; (with_reducible refine (CT.out _ E0d.out).mono ?_); rintro e w2 ⟨rfl, hx⟩; refine hK _ _ hx ?_; clear hK)
            have Ew2 := Lib.hid (Ext.trans E0d.out hx)
            clear hx
            try simp only [Act.put, List.setIfInBounds_toArray, List.set_cons_zero, List.set_cons_succ]
            refine ext_take (i := 17) (v := ?_) rfl (by kernel_rfl) (by kernel_rfl) (by kernel_rfl) (fun _ _ _ h => h) (by rfl) ?_ ?_
            rotate_left
            · intro W hW; have hW0 := Ext.trans Ew2.out hW; clear hW; go_simp <;> with_reducible rfl
            try simp only [Act.put, List.setIfInBounds_toArray, List.set_cons_zero, List.set_cons_succ]
            refine ext_take (i := 18) (v := ?_) rfl (by kernel_rfl) (by kernel_rfl) (by kernel_rfl) (fun _ _ _ h => h) (by rfl) ?_ ?_
            rotate_left
            · intro W hW; have hW0 := Ext.trans Ew2.out hW; clear hW; go_simp <;> with_reducible rfl
            try simp only [Act.put, List.setIfInBounds_toArray, List.set_cons_zero, List.set_cons_succ]
            refine wpAnyH_done (by kernel_rfl) ?_ _
            go_wp2
            go_roundw
            case rel => exact ⟨j + 1, _, G', by omega, by go_num, HR1.out, HP2.out.stay Ew2.out, Ext.trans X1.out Ew2.out⟩
            case measure => simp [intOf]; omega
          | false =>
            have CT := Lib.hid (CZ.out false hsm)
            have HD0 := Lib.hid (HS1.out (fun h => by rw [sameAc_iff] at h; rw [(sameAc_iff _ _).2 h.symm] at hsm; cases hsm))
            clear CZ HGO2 HS1 hsm
            refine ext_begin (by kernel_rfl) ?_
            have E0d := Lib.hid (Ext.drewR E0.out)
            refine ext_take (i := 0) (v := ?_) rfl (by kernel_rfl) (by kernel_rfl) (by kernel_rfl) (fun _ _ _ h => h) (by rfl) ?_ ?_
            rotate_left
            · intro W hW; have hW0 := Ext.trans E0d.out hW; clear hW; go_simp <;> with_reducible rfl
            try simp only [Act.put, List.setIfInBounds_toArray, List.set_cons_zero, List.set_cons_succ]
            refine ext_take (i := 1) (v := .bool false) rfl (by kernel_rfl) (by kernel_rfl) (by kernel_rfl) (fun _ _ _ h => h) (by rfl) ?_ ?_
            · intro W hW; have hW0 := Ext.trans E0d.out hW; clear hW; go_simp; all_goals (first | done | rfl)
            try simp only [Act.put, List.setIfInBounds_toArray, List.set_cons_zero, List.set_cons_succ]
            refine ext_take (i := 2) (v := ?_) rfl (by kernel_rfl) (by kernel_rfl) (by kernel_rfl) (fun _ _ _ h => h) (by rfl) ?_ ?_
            rotate_left
            · intro W hW; have hW0 := Ext.trans E0d.out hW; clear hW; go_simp <;> with_reducible rfl
            try simp only [Act.put, List.setIfInBounds_toArray, List.set_cons_zero, List.set_cons_succ]
            refine ext_take (i := 3) (v := ?_) rfl (by kernel_rfl) (by kernel_rfl) (by kernel_rfl) (fun _ _ _ h => h) (by rfl) ?_ ?_
            rotate_left
            · intro W hW; have hW0 := Ext.trans E0d.out hW; clear hW; go_simp <;> with_reducible rfl
            try simp only [Act.put, List.setIfInBounds_toArray, List.set_cons_zero, List.set_cons_succ]
            refine ext_take (i := 4) (v := ?_) rfl (by kernel_rfl) (by kernel_rfl) (by kernel_rfl) (fun _ _ _ h => h) (by rfl) ?_ ?_
            rotate_left
            · intro W hW; have hW0 := Ext.trans E0d.out hW; clear hW; go_simp <;> with_reducible rfl
            try simp only [Act.put, List.setIfInBounds_toArray, List.set_cons_zero, List.set_cons_succ]
            refine ext_take (i := 5) (v := ?_) rfl (by kernel_rfl) (by kernel_rfl) (by kernel_rfl) (fun _ _ _ h => h) (by rfl) ?_ ?_
            rotate_left
            · intro W hW; have hW0 := Ext.trans E0d.out hW; clear hW; go_simp <;> with_reducible rfl
            try simp only [Act.put, List.setIfInBounds_toArray, List.set_cons_zero, List.set_cons_succ]
            refine ext_take (i := 6) (v := ?_) rfl (by kernel_rfl) (by kernel_rfl) (by kernel_rfl) (fun _ _ _ h => h) (by rfl) ?_ ?_
            rotate_left
            · intro W hW; have hW0 := Ext.trans E0d.out hW; clear hW; go_simp <;> with_reducible rfl
            try simp only [Act.put, List.setIfInBounds_toArray, List.set_cons_zero, List.set_cons_succ]
            refine ext_take (i := 7) (v := ?_) rfl (by kernel_rfl) (by kernel_rfl) (by kernel_rfl) (fun _ _ _ h => h) (by rfl) ?_ ?_
            rotate_left
            · intro W hW; have hW0 := Ext.trans E0d.out hW; clear hW; go_simp <;> with_reducible rfl
            try simp only [Act.put, List.setIfInBounds_toArray, List.set_cons_zero, List.set_cons_succ]
            refine ext_take (i := 8) (v := ?_) rfl (by kernel_rfl) (by kernel_rfl) (by kernel_rfl) (fun _ _ _ h => h) (by rfl) ?_ ?_
            rotate_left
            · intro W hW; have hW0 := Ext.trans E0d.out hW; clear hW; go_simp <;> with_reducible rfl
            try simp only [Act.put, List.setIfInBounds_toArray, List.set_cons_zero, List.set_cons_succ]
            refine ext_take (i := 9) (v := ?_) rfl (by kernel_rfl) (by kernel_rfl) (by kernel_rfl) (fun _ _ _ h => h) (by rfl) ?_ ?_
            rotate_left
            · intro W hW; have hW0 := Ext.trans E0d.out hW; clear hW; go_simp <;> with_reducible rfl
            try simp only [Act.put, List.setIfInBounds_toArray, List.set_cons_zero, List.set_cons_succ]
            refine ext_take (i := 10) (v := ?_) rfl (by kernel_rfl) (by kernel_rfl) (by kernel_rfl) (fun _ _ _ h => h) (by rfl) ?_ ?_
            rotate_left
            · intro W hW; have hW0 := Ext.trans E0d.out hW; clear hW; go_simp <;> with_reducible rfl
            try simp only [Act.put, List.setIfInBounds_toArray, List.set_cons_zero, List.set_cons_succ]
            refine ext_take (i := 11) (v := ?_) rfl (by kernel_rfl) (by kernel_rfl) (by kernel_rfl) (fun _ _ _ h => h) (by rfl) ?_ ?_
            rotate_left
            · intro W hW; have hW0 := Ext.trans E0d.out hW; clear hW; go_simp <;> with_reducible rfl
            try simp only [Act.put, List.setIfInBounds_toArray, List.set_cons_zero, List.set_cons_succ]
            refine ext_take (i := 12) (v := ?_) rfl (by kernel_rfl) (by kernel_rfl) (by kernel_rfl) (fun _ _ _ h => h) (by rfl) ?_ ?_
            rotate_left
            · intro W hW; have hW0 := Ext.trans E0d.out hW; clear hW; go_simp <;> with_reducible rfl
            try simp only [Act.put, List.setIfInBounds_toArray, List.set_cons_zero, List.set_cons_succ]
            refine ext_take (i := 13) (v := ?_) rfl (by kernel_rfl) (by kernel_rfl) (by kernel_rfl) (fun _ _ _ h => h) (by rfl) ?_ ?_
            rotate_left
            · intro W hW; have hW0 := Ext.trans E0d.out hW; clear hW; go_simp <;> with_reducible rfl
            try simp only [Act.put, List.setIfInBounds_toArray, List.set_cons_zero, List.set_cons_succ]
            refine ext_take (i := 14) (v := ?_) rfl (by kernel_rfl) (by kernel_rfl) (by kernel_rfl) (fun _ _ _ h => h) (by rfl) ?_ ?_
            rotate_left
            · intro W hW; have hW0 := Ext.trans E0d.out hW; clear hW; go_simp <;> with_reducible rfl
            try simp only [Act.put, List.setIfInBounds_toArray, List.set_cons_zero, List.set_cons_succ]
            refine ext_take (i := 15) (v := ?_) rfl (by kernel_rfl) (by kernel_rfl) (by kernel_rfl) (fun _ _ _ h => h) (by rfl) ?_ ?_
            rotate_left
            · intro W hW; have hW0 := Ext.trans E0d.out hW; clear hW; go_simp <;> with_reducible rfl
            try simp only [Act.put, List.setIfInBounds_toArray, List.set_cons_zero, List.set_cons_succ]
            refine ext_call (i := 16) rfl (by kernel_rfl) (by rfl) (fun K' hK => ?_)
            go_simp
            (go_at_call 41; (with_reducible refine (CT.out _ E0d.out).mono ?_); rintro e w2 ⟨rfl, hx⟩; refine hK _ _ hx ?_; clear hK)
            have Ew2 := Lib.hid (Ext.trans E0d.out hx)
            clear hx
            try simp only [Act.put, List.setIfInBounds_toArray, List.set_cons_zero, List.set_cons_succ]
            refine ext_take (i := 17) (v := ?_) rfl (by kernel_rfl) (by kernel_rfl) (by kernel_rfl) (fun _ _ _ h => h) (by rfl) ?_ ?_
            rotate_left
            · intro W hW; have hW0 := Ext.trans Ew2.out hW; clear hW; go_simp <;> with_reducible rfl
            try simp only [Act.put, List.setIfInBounds_toArray, List.set_cons_zero, List.set_cons_succ]
            refine ext_take (i := 18) (v := ?_) rfl (by kernel_rfl) (by kernel_rfl) (by kernel_rfl) (fun _ _ _ h => h) (by rfl) ?_ ?_
            rotate_left
            · intro W hW; have hW0 := Ext.trans Ew2.out hW; clear hW; go_simp <;> with_reducible rfl
            try simp only [Act.put, List.setIfInBounds_toArray, List.set_cons_zero, List.set_cons_succ]
            refine wpAnyH_done (by kernel_rfl) ?_ _
            go_wp2
            try go_ret
            exact hD.out _ _ ⟨by first | (rw [HD0.out]; done) | (rw [HD0.out]; rfl), Ext.trans X1.out Ew2.out⟩
        · have HD0 := Lib.hid (HS.out (fun h => hE h.1))
          have hE1 : (E == 0) = false := by simp [hE]
          go_wp2_with (go_at_call 11; go_loud (rw [← HW.out]; (with_reducible refine CA.out.mono ?_); rintro e w1 ⟨rfl, hout⟩; have HOUT := Lib.hid hout; rw [← HG.out]; clear hout))
          obtain ⟨G', hP', hF', hG'⟩ := HOUT.out
          have E0 := Lib.hid (HFR.out w1 hF').2
          clear hP' hF' hG'
          refine ext_begin (by kernel_rfl) ?_
          have E0d := Lib.hid (Ext.drewR E0.out)
          refine ext_take (i := 0) (v := ?_) rfl (by kernel_rfl) (by kernel_rfl) (by kernel_rfl) (fun _ _ _ h => h) (by rfl) ?_ ?_
          rotate_left
          · intro W hW; have hW0 := Ext.trans E0d.out hW; clear hW; go_simp <;> with_reducible rfl
          try simp only [Act.put, List.setIfInBounds_toArray, List.set_cons_zero, List.set_cons_succ]
          refine ext_take (i := 1) (v := .bool true) rfl (by kernel_rfl) (by kernel_rfl) (by kernel_rfl) (fun _ _ _ h => h) (by rfl) ?_ ?_
          · intro W hW; have hW0 := Ext.trans E0d.out hW; clear hW; go_simp; all_goals (first | done | (simp [hE]; done))
          try simp only [Act.put, List.setIfInBounds_toArray, List.set_cons_zero, List.set_cons_succ]
          refine ext_take (i := 2) (v := ?_) rfl (by kernel_rfl) (by kernel_rfl) (by kernel_rfl) (fun _ _ _ h => h) (by rfl) ?_ ?_
          rotate_left
          · intro W hW; have hW0 := Ext.trans E0d.out hW; clear hW; go_simp <;> with_reducible rfl
          try simp only [Act.put, List.setIfInBounds_toArray, List.set_cons_zero, List.set_cons_succ]
          refine ext_skip (i := 3) rfl (by kernel_rfl) (by kernel_rfl) (by kernel_rfl) (fun _ _ _ h => h) (by rfl) ?_
          try simp only [Act.put, List.setIfInBounds_toArray, List.set_cons_zero, List.set_cons_succ]
          refine ext_skip (i := 4) rfl (by kernel_rfl) (by kernel_rfl) (by kernel_rfl) (fun _ _ _ h => h) (by rfl) ?_
          try simp only [Act.put, List.setIfInBounds_toArray, List.set_cons_zero, List.set_cons_succ]
          refine ext_skip (i := 5) rfl (by kernel_rfl) (by kernel_rfl) (by kernel_rfl) (fun _ _ _ h => h) (by rfl) ?_
          try simp only [Act.put, List.setIfInBounds_toArray, List.set_cons_zero, List.set_cons_succ]
          refine ext_skip (i := 6) rfl (by kernel_rfl) (by kernel_rfl) (by kernel_rfl) (fun _ _ _ h => h) (by rfl) ?_
          try simp only [Act.put, List.setIfInBounds_toArray, List.set_cons_zero, List.set_cons_succ]
          refine ext_skip (i := 7) rfl (by kernel_rfl) (by kernel_rfl) (by kernel_rfl) (fun _ _ _ h => h) (by rfl) ?_
          try simp only [Act.put, List.setIfInBounds_toArray, List.set_cons_zero, List.set_cons_succ]
          refine ext_skip (i := 8) rfl (by kernel_rfl) (by kernel_rfl) (by kernel_rfl) (fun _ _ _ h => h) (by rfl) ?_
          try simp only [Act.put, List.setIfInBounds_toArray, List.set_cons_zero, List.set_cons_succ]
          refine ext_skip (i := 9) rfl (by kernel_rfl) (by kernel_rfl) (by kernel_rfl) (fun _ _ _ h => h) (by rfl) ?_
          try simp only [Act.put, List.setIfInBounds_toArray, List.set_cons_zero, List.set_cons_succ]
          refine ext_skip (i := 10) rfl (by kernel_rfl) (by kernel_rfl) (by kernel_rfl) (fun _ _ _ h => h) (by rfl) ?_
          try simp only [Act.put, List.setIfInBounds_toArray, List.set_cons_zero, List.set_cons_succ]
          refine ext_skip (i := 11) rfl (by kernel_rfl) (by kernel_rfl) (by kernel_rfl) (fun _ _ _ h => h) (by rfl) ?_
          try simp only [Act.put, List.setIfInBounds_toArray, List.set_cons_zero, List.set_cons_succ]
          refine ext_skip (i := 12) rfl (by kernel_rfl) (by kernel_rfl) (by kernel_rfl) (fun _ _ _ h => h) (by rfl) ?_
          try simp only [Act.put, List.setIfInBounds_toArray, List.set_cons_zero, List.set_cons_succ]
          refine ext_skip (i := 13) rfl (by kernel_rfl) (by kernel_rfl) (by kernel_rfl) (fun _ _ _ h => h) (by rfl) ?_
          try simp only [Act.put, List.setIfInBounds_toArray, List.set_cons_zero, List.set_cons_succ]
          refine ext_skip (i := 14) rfl (by kernel_rfl) (by kernel_rfl) (by kernel_rfl) (fun _ _ _ h => h) (by rfl) ?_
          try simp only [Act.put, List.setIfInBounds_toArray, List.set_cons_zero, List.set_cons_succ]
          refine ext_skip (i := 15) rfl (by kernel_rfl) (by kernel_rfl) (by kernel_rfl) (fun _ _ _ h => h) (by rfl) ?_
          try simp only [Act.put, List.setIfInBounds_toArray, List.set_cons_zero, List.set_cons_succ]
          refine ext_skip (i := 16) rfl (by kernel_rfl) (by kernel_rfl) (by kernel_rfl) (fun _ _ _ h => h) (by rfl) ?_
          try simp only [Act.put, List.setIfInBounds_toArray, List.set_cons_zero, List.set_cons_succ]
          refine ext_skip (i := 17) rfl (by kernel_rfl) (by kernel_rfl) (by kernel_rfl) (fun _ _ _ h => h) (by rfl) ?_
          try simp only [Act.put, List.setIfInBounds_toArray, List.set_cons_zero, List.set_cons_succ]
          refine ext_take (i := 18) (v := ?_) rfl (by kernel_rfl) (by kernel_rfl) (by kernel_rfl) (fun _ _ _ h => h) (by rfl) ?_ ?_
          rotate_left
          · intro W hW; have hW0 := Ext.trans E0d.out hW; clear hW; go_simp <;> with_reducible rfl
          try simp only [Act.put, List.setIfInBounds_toArray, List.set_cons_zero, List.set_cons_succ]
          refine wpAnyH_done (by kernel_rfl) ?_ _
          go_wp2
          try go_ret
          exact hD.out _ _ ⟨by first | (rw [HD0.out]; done) | (rw [HD0.out]; rfl), E0d.out⟩
    · have h3 : ¬ (j : Int) < (n : Int) := by omega
      have HE : Hid (decide (mayF (L.map At.x)) = true) := by
        show _ = _
        rw [decide_eq_true_eq]
        refine ⟨st, ?_⟩
        have h := HRUN.out
        rwa [List.take_of_length_le (by rw [List.length_map, ← HN.out]; omega)] at h
      go_wp2
      try go_ret
      exact hD.out _ _ ⟨by rw [HE.out], HX.out⟩

end Go.Proofs.Ytnionfddejaalaa
