/-
  The document's retry: how long is waited, when it is due, whom to ask.
-/
import Derived.Test.YtnionfddejaalaaRetry
import Derived.Test.YtnionfddejaalaaHeldR
namespace Go.Proofs.Ytnionfddejaalaa
set_option linter.unusedVariables false
set_option linter.unusedSimpArgs false
open Go.RowKit

theorem rwait_any (t : Int) (w : World) (h0 : -9223372036854775808 ≤ t) (h1 : t ≤ 9223372036854775807) : Calls Try.prog 57 #[.int .i64 t] w fun e w' => e = .returned (.int .i64 (waitF t)) ∧ w = w' := by
  generalize hr : waitF t = r
  have HR := Lib.hid hr
  clear hr
  by_cases ht : t < 1
  · go_enter Try.func57, Try.ntmps57
    go_wp2
    all_goals go_ret
    all_goals exact ⟨ret_int (by rw [← HR.out]; unfold waitF; omega), rfl⟩
  · go_enter Try.func57, Try.ntmps57
    go_wp2
    all_goals go_ret
    all_goals exact ⟨ret_int (by rw [← HR.out]; unfold waitF; omega), rfl⟩

theorem rdue_any (now asked t : Int) (w : World) (h0 : -9223372036854775808 ≤ t) (h1 : t ≤ 9223372036854775807) (h2 : now ≤ 9223372036854775807) (h3 : asked ≤ 9223372036854775807) :
    Calls Try.prog 46 #[.int .i64 now, .int .i64 asked, .int .i64 t] w fun e w' => e = .returned (.bool (dueB now asked t)) ∧ w = w' := by
  generalize hr : dueB now asked t = r
  have HR := Lib.hid hr
  have HW := Lib.hid (rwait_any t w h0 h1)
  clear hr h0 h1
  obtain ⟨b0, b1⟩ := wait_bd t
  unfold dueB at HR
  generalize waitF t = q at *
  by_cases hn : 0 ≤ now
  · by_cases ha : 0 ≤ asked
    · by_cases hna : asked ≤ now
      · by_cases hq : q ≤ now - asked
        · go_enter Try.func46, Try.ntmps46
          go_wp2_with (go_at_call 57; refine HW.out.mono ?_; rintro e w' ⟨rfl, rfl⟩)
          go_ret
          exact ⟨ret_bool (by rw [← HR.out]; exact dec_true (by omega)), rfl⟩
        · go_enter Try.func46, Try.ntmps46
          go_wp2_with (go_at_call 57; refine HW.out.mono ?_; rintro e w' ⟨rfl, rfl⟩)
          go_ret
          exact ⟨ret_bool (by rw [← HR.out]; exact dec_iff (by omega)), rfl⟩
      · go_enter Try.func46, Try.ntmps46
        go_wp2
        go_ret
        exact ⟨ret_bool (by rw [← HR.out]; exact dec_false (by omega)), rfl⟩
    · go_enter Try.func46, Try.ntmps46
      go_wp2
      go_ret
      exact ⟨ret_bool (by rw [← HR.out]; exact dec_false (by omega)), rfl⟩
  · go_enter Try.func46, Try.ntmps46
    go_wp2
    go_ret
    exact ⟨ret_bool (by rw [← HR.out]; exact dec_false (by omega)), rfl⟩

theorem goodB_step (l : List Int) (n : Int) (k : Nat) (h : k < l.length) : (!(l.take (k + 1)).any (badB n)) = (!(l.take k).any (badB n) && (decide (0 ≤ l[k]) && decide (l[k] < n))) := by
  have e : ∀ x : Int, badB n x = !(decide (0 ≤ x) && decide (x < n)) := fun x => by
    unfold badB
    by_cases h1 : 0 ≤ x
    · by_cases h2 : x < n
      · rw [decide_eq_true h1, decide_eq_true h2, decide_eq_false (by omega)]; rfl
      · rw [decide_eq_true h1, decide_eq_false h2, decide_eq_true (by omega)]; rfl
    · rw [decide_eq_false h1, decide_eq_true (by omega)]; rfl
  rw [List.take_succ_eq_append_getElem h, List.any_append, List.any_cons, List.any_nil, Bool.or_false, e, Bool.not_or, Bool.not_not]

set_option maxRecDepth 8000 in
set_option maxHeartbeats 8000000 in
theorem rtarget_any (ep : Int) (A : Option Addr) (cap : Nat) (l : List Int) (n t : Int) (b : Bool) (w : World) (hn : 1 ≤ n) (ht : 1 ≤ t) (hbig : l.length ≤ 1000) (hs : Sl i64 w A l) :
    Calls Try.prog 43 #[.agg #[.int .i64 ep, .slice A l.length cap], .int .i64 n, .int .i64 t, .bool b] w fun e w' => e = .returned (.int .i64 (targetF l n t b)) ∧ Ext w w' := by
  refine hide_post fun D hD => ?_
  obtain ⟨N, hN⟩ : ∃ N, N = l.length := ⟨_, rfl⟩
  rw [← hN] at hbig ⊢
  generalize hr : targetF l n t b = r at *
  obtain ⟨W0, hW0⟩ : ∃ W0, W0 = (w.alloc (.cells #[.int .i64 ep, .slice A N cap] 59)) := ⟨_, rfl⟩
  have kB : Blk W0 w.heap.size 59 #[.int .i64 ep, .slice A N cap] := by rw [hW0]; exact Blk.new _ _ _
  have hx0 : Ext w W0 := by rw [hW0]; exact Ext.alloc _ _
  have fz : ∀ V, Ext W0 V → V.cell? ⟨w.heap.size, 1, none⟩ = some (.slice A N cap) := fun V h => (kB.stay h).cell 1
  have HS : Hid (∀ V, Ext W0 V → Sl i64 V A l) := fun V h => hs.stay (Ext.trans hx0 h)
  have HN := Lib.hid hN
  have HW0 := Lib.hid hW0
  have HX0 := Lib.hid hx0
  have HR := Lib.hid hr
  have HF : Hid (∀ V, Ext W0 V → D (.returned (.int .i64 r)) V) := fun V h => hD.out _ _ ⟨rfl, Ext.trans hx0 h⟩
  clear hs hN hW0 hx0 hr kB hD
  have hn0 : ¬ n < 1 := by omega
  have hm : max t 0 = t := by omega
  have e0 : Ext W0 W0 := Ext.refl _
  have c0 := fz _ e0
  by_cases h2 : 2 < t
  · have hrr : r = t % n := by rw [← HR.out]; unfold targetF; rw [if_neg (by omega), if_pos (.inr (.inl h2)), hm]
    have h3 : (t == 1) = false := by rw [beq_eq_false_iff_ne]; omega
    have h4 : (t == 2) = false := by rw [beq_eq_false_iff_ne]; omega
    go_enter Try.func43, Try.ntmps43
    go_wp2_with fail
    try rw [← HW0.out]
    try go_wp2_with fail
    try go_ret
    try rw [← hrr]
    exact HF.out _ (Ext.refl _)
  · have ht12 : t = 1 ∨ t = 2 := by omega
    have HT := Lib.hid ht12
    obtain ⟨g, hg⟩ : ∃ g : Bool, g = (decide (0 < N) && !l.any (badB n)) := ⟨_, rfl⟩
    have HG := Lib.hid hg
    have hloop : ∀ t', t' = 1 ∨ t' = 2 → t = t' → Calls Try.prog 43 #[.agg #[.int .i64 ep, .slice A N cap], .int .i64 n, .int .i64 t', .bool b] w D := by
      intro t' ht' hte
      subst hte
      clear hg
      rcases ht' with rfl | rfl
      · go_enter Try.func43, Try.ntmps43
        go_wp2_with fail
        rw [← HW0.out]
        go_wp2_with fail
        go_loopw [10, 11] (fun a i wr => ∃ (k : Nat) (bv : Bool), k ≤ N ∧ a = .bool bv ∧ i = .int .i64 k ∧ Hid (bv = (decide (0 < N) && !(l.take k).any (badB n))) ∧ Hid (Ext W0 wr)) (fun _ i _ => N - (intOf i).toNat)
        case atStart => exact ⟨0, decide (0 < N), Nat.zero_le _, by first | rfl | simp, rfl, by (show _ = _); simp, Ext.refl _⟩
        case round =>
          obtain ⟨k, bv, hk, rfl, rfl, HB, HE⟩ := hrel
          have cw := fz _ HE.out
          by_cases hlt : k < N
          · obtain ⟨b1, o, rfl, hc⟩ := (HS.out _ HE.out).at_ (k := k) (by have := HN.out; omega)
            have hst := goodB_step l n k (by have := HN.out; omega)
            have HST := Lib.hid hst
            clear hst
            generalize l[k]'(by have := HN.out; omega) = x at *
            unfold i64 at hc
            have hk0 : (0 : Int) ≤ (k : Int) := by omega
            have hk1 : (k : Int) < (N : Int) := by omega
            cases bv with
            | false =>
              go_wp2_with fail
              go_roundw
              case rel => exact ⟨k + 1, false, by omega, rfl, by go_num, by (show _ = _); rw [HST.out, ← Bool.and_assoc, ← HB.out]; rfl, by first | exact HE.out | exact HE.out.drewN⟩
              case measure => simp [intOf]; omega
            | true =>
              by_cases hx0 : 0 ≤ x
              · by_cases hxn : x < n
                · go_wp2_with fail
                  go_roundw
                  case rel => exact ⟨k + 1, true, by omega, by first | rfl | simp [hx0, hxn], by go_num, by (show _ = _); rw [HST.out, ← Bool.and_assoc, ← HB.out]; simp [hx0, hxn], by first | exact HE.out | exact HE.out.drewN⟩
                  case measure => simp [intOf]; omega
                · go_wp2_with fail
                  go_roundw
                  case rel => exact ⟨k + 1, false, by omega, by first | rfl | simp [hx0, hxn], by go_num, by (show _ = _); rw [HST.out, ← Bool.and_assoc, ← HB.out]; simp [hx0, hxn], by first | exact HE.out | exact HE.out.drewN⟩
                  case measure => simp [intOf]; omega
              · go_wp2_with fail
                go_roundw
                case rel => exact ⟨k + 1, false, by omega, by first | rfl | simp [hx0], by go_num, by (show _ = _); rw [HST.out, ← Bool.and_assoc, ← HB.out]; simp [hx0], by first | exact HE.out | exact HE.out.drewN⟩
                case measure => simp [intOf]; omega
          · have hkN : k = N := by omega
            have hgg : bv = g := by
              rw [HB.out, HG.out, List.take_of_length_le (by have := HN.out; omega)]
            subst hgg
            have hk1 : ¬ (k : Int) < (N : Int) := by omega
            cases bv with
            | false =>
              have hrr : ((1 : Int)) % n = r := by
                rw [← HR.out]
                unfold targetF
                rw [if_neg (by omega), if_pos ?_]
                · rfl
                · have hgf := HG.out
                  by_cases hl0 : 0 < N
                  · right; right; right
                    rw [decide_eq_true hl0] at hgf
                    simpa using hgf.symm
                  · right; right; left
                    exact List.eq_nil_of_length_eq_zero (by have := HN.out; omega)
              clear HB
              go_wp2_with fail
              try go_ret
              try rw [hrr]
              exact HF.out _ (by first | exact HE.out | exact HE.out.drewN)
            | true =>
              have hgt := HG.out
              have hpos : 0 < N := by
                by_cases hl0 : 0 < N
                · exact hl0
                · rw [decide_eq_false hl0] at hgt
                  simp at hgt
              have hbad : l.any (badB n) = false := by
                rw [decide_eq_true hpos] at hgt
                simpa using hgt.symm
              have hlen := HN.out
              have hl : l ≠ [] := fun e => by rw [e] at hlen; simp at hlen; omega
              obtain ⟨b1, o1, rfl, hc0⟩ := (HS.out _ HE.out).at_ (k := 0) (by omega)
              have hmz : (1 : Int) % (l.length : Int) < l.length := Int.emod_lt_of_pos _ (by omega)
              have hmp : 0 ≤ (1 : Int) % (l.length : Int) := Int.emod_nonneg _ (by omega)
              obtain ⟨b2, o2, e2, hc1⟩ := (HS.out _ HE.out).at_ (k := ((1 : Int) % (l.length : Int)).toNat) (by omega)
              injection e2 with e2
              injection e2 with e2 e3
              subst e2 e3
              have hrr : r = if b then l.getD 0 0 else l.getD ((1 : Int) % (l.length : Int)).toNat 0 := by
                rw [← HR.out]
                unfold targetF
                rw [if_neg (by omega), if_neg]
                rw [hbad]
                intro h
                rcases h with h | h | h | h
                · omega
                · omega
                · exact hl h
                · cases h
              rw [List.getElem_eq_getD 0] at hc0 hc1
              have HRR := Lib.hid hrr
              unfold i64 at hc0 hc1
              clear hrr hl hbad hgt HB
              rw [← hlen] at hc1 hmz hmp HRR
              clear hlen
              generalize l.getD 0 0 = x0 at *
              obtain ⟨mi, hmi⟩ : ∃ mi : Nat, (1 : Int) % (N : Int) = (mi : Int) := ⟨((1 : Int) % (N : Int)).toNat, by omega⟩
              rw [hmi] at hc1 HRR hmz
              simp only [Int.toNat_natCast, Nat.add_zero] at hc1 hc0 HRR
              generalize l.getD mi 0 = x1 at *
              have hN0 : ((N : Int) == 0) = false := by rw [beq_eq_false_iff_ne]; omega
              have hN1 : ¬ (N : Int) = 0 := by omega
              have hmt : (1 : Int).tmod (N : Int) = (mi : Int) := by rw [Int.tmod_eq_emod_of_nonneg (by omega)]; exact hmi
              have hmi0 : (0 : Int) ≤ (mi : Int) := by omega
              cases b with
              | true =>
                go_wp2_with fail
                try go_ret
                have e := HRR.out
                simp only [if_true] at e
                rw [← e]
                exact HF.out _ (by first | exact HE.out | exact HE.out.drewN)
              | false =>
                go_wp2_with fail
                all_goals (try go_quiet (fail))
                all_goals (try go_wp2_with fail)
                all_goals (try go_ret)
                have e := HRR.out
                simp at e
                all_goals (rw [← e])
                all_goals exact HF.out _ (by first | exact HE.out | exact HE.out.drewN)
      · go_enter Try.func43, Try.ntmps43
        go_wp2_with fail
        rw [← HW0.out]
        go_wp2_with fail
        go_loopw [10, 11] (fun a i wr => ∃ (k : Nat) (bv : Bool), k ≤ N ∧ a = .bool bv ∧ i = .int .i64 k ∧ Hid (bv = (decide (0 < N) && !(l.take k).any (badB n))) ∧ Hid (Ext W0 wr)) (fun _ i _ => N - (intOf i).toNat)
        case atStart => exact ⟨0, decide (0 < N), Nat.zero_le _, by first | rfl | simp, rfl, by (show _ = _); simp, Ext.refl _⟩
        case round =>
          obtain ⟨k, bv, hk, rfl, rfl, HB, HE⟩ := hrel
          have cw := fz _ HE.out
          by_cases hlt : k < N
          · obtain ⟨b1, o, rfl, hc⟩ := (HS.out _ HE.out).at_ (k := k) (by have := HN.out; omega)
            have hst := goodB_step l n k (by have := HN.out; omega)
            have HST := Lib.hid hst
            clear hst
            generalize l[k]'(by have := HN.out; omega) = x at *
            unfold i64 at hc
            have hk0 : (0 : Int) ≤ (k : Int) := by omega
            have hk1 : (k : Int) < (N : Int) := by omega
            cases bv with
            | false =>
              go_wp2_with fail
              go_roundw
              case rel => exact ⟨k + 1, false, by omega, rfl, by go_num, by (show _ = _); rw [HST.out, ← Bool.and_assoc, ← HB.out]; rfl, by first | exact HE.out | exact HE.out.drewN⟩
              case measure => simp [intOf]; omega
            | true =>
              by_cases hx0 : 0 ≤ x
              · by_cases hxn : x < n
                · go_wp2_with fail
                  go_roundw
                  case rel => exact ⟨k + 1, true, by omega, by first | rfl | simp [hx0, hxn], by go_num, by (show _ = _); rw [HST.out, ← Bool.and_assoc, ← HB.out]; simp [hx0, hxn], by first | exact HE.out | exact HE.out.drewN⟩
                  case measure => simp [intOf]; omega
                · go_wp2_with fail
                  go_roundw
                  case rel => exact ⟨k + 1, false, by omega, by first | rfl | simp [hx0, hxn], by go_num, by (show _ = _); rw [HST.out, ← Bool.and_assoc, ← HB.out]; simp [hx0, hxn], by first | exact HE.out | exact HE.out.drewN⟩
                  case measure => simp [intOf]; omega
              · go_wp2_with fail
                go_roundw
                case rel => exact ⟨k + 1, false, by omega, by first | rfl | simp [hx0], by go_num, by (show _ = _); rw [HST.out, ← Bool.and_assoc, ← HB.out]; simp [hx0], by first | exact HE.out | exact HE.out.drewN⟩
                case measure => simp [intOf]; omega
          · have hkN : k = N := by omega
            have hgg : bv = g := by
              rw [HB.out, HG.out, List.take_of_length_le (by have := HN.out; omega)]
            subst hgg
            have hk1 : ¬ (k : Int) < (N : Int) := by omega
            cases bv with
            | false =>
              have hrr : ((2 : Int)) % n = r := by
                rw [← HR.out]
                unfold targetF
                rw [if_neg (by omega), if_pos ?_]
                · rfl
                · have hgf := HG.out
                  by_cases hl0 : 0 < N
                  · right; right; right
                    rw [decide_eq_true hl0] at hgf
                    simpa using hgf.symm
                  · right; right; left
                    exact List.eq_nil_of_length_eq_zero (by have := HN.out; omega)
              clear HB
              go_wp2_with fail
              try go_ret
              try rw [hrr]
              exact HF.out _ (by first | exact HE.out | exact HE.out.drewN)
            | true =>
              have hgt := HG.out
              have hpos : 0 < N := by
                by_cases hl0 : 0 < N
                · exact hl0
                · rw [decide_eq_false hl0] at hgt
                  simp at hgt
              have hbad : l.any (badB n) = false := by
                rw [decide_eq_true hpos] at hgt
                simpa using hgt.symm
              have hlen := HN.out
              have hl : l ≠ [] := fun e => by rw [e] at hlen; simp at hlen; omega
              obtain ⟨b1, o1, rfl, hc0⟩ := (HS.out _ HE.out).at_ (k := 0) (by omega)
              have hmz : (2 : Int) % (l.length : Int) < l.length := Int.emod_lt_of_pos _ (by omega)
              have hmp : 0 ≤ (2 : Int) % (l.length : Int) := Int.emod_nonneg _ (by omega)
              obtain ⟨b2, o2, e2, hc1⟩ := (HS.out _ HE.out).at_ (k := ((2 : Int) % (l.length : Int)).toNat) (by omega)
              injection e2 with e2
              injection e2 with e2 e3
              subst e2 e3
              have hrr : r = if b then l.getD 0 0 else l.getD ((2 : Int) % (l.length : Int)).toNat 0 := by
                rw [← HR.out]
                unfold targetF
                rw [if_neg (by omega), if_neg]
                rw [hbad]
                intro h
                rcases h with h | h | h | h
                · omega
                · omega
                · exact hl h
                · cases h
              rw [List.getElem_eq_getD 0] at hc0 hc1
              have HRR := Lib.hid hrr
              unfold i64 at hc0 hc1
              clear hrr hl hbad hgt HB
              rw [← hlen] at hc1 hmz hmp HRR
              clear hlen
              generalize l.getD 0 0 = x0 at *
              obtain ⟨mi, hmi⟩ : ∃ mi : Nat, (2 : Int) % (N : Int) = (mi : Int) := ⟨((2 : Int) % (N : Int)).toNat, by omega⟩
              rw [hmi] at hc1 HRR hmz
              simp only [Int.toNat_natCast, Nat.add_zero] at hc1 hc0 HRR
              generalize l.getD mi 0 = x1 at *
              have hN0 : ((N : Int) == 0) = false := by rw [beq_eq_false_iff_ne]; omega
              have hN1 : ¬ (N : Int) = 0 := by omega
              have hmt : (2 : Int).tmod (N : Int) = (mi : Int) := by rw [Int.tmod_eq_emod_of_nonneg (by omega)]; exact hmi
              have hmi0 : (0 : Int) ≤ (mi : Int) := by omega
              cases b with
              | true =>
                go_wp2_with fail
                try go_ret
                have e := HRR.out
                simp only [if_true] at e
                rw [← e]
                exact HF.out _ (by first | exact HE.out | exact HE.out.drewN)
              | false =>
                go_wp2_with fail
                all_goals (try go_quiet (fail))
                all_goals (try go_wp2_with fail)
                all_goals (try go_ret)
                have e := HRR.out
                simp at e
                all_goals (rw [← e])
                all_goals exact HF.out _ (by first | exact HE.out | exact HE.out.drewN)
    exact hloop t ht12 rfl

end Go.Proofs.Ytnionfddejaalaa
