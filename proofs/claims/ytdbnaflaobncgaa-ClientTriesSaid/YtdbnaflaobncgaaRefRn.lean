/-
  Walks of the document's reader, further: Num.
-/
import Derived.Test.YtdbnaflaobncgaaRefR
namespace Go.Proofs.Ytdbnaflaobncgaa
set_option linter.unusedVariables false
set_option linter.unusedSimpArgs false
open Go.RowKit

/-- what the document's reader answers for a number -/
def rfNum (l : List UInt8) (bad : Bool) (most : Nat) : Nat × List UInt8 × Bool :=
  if bad then (0, [], true) else match rdGo most 0 0 l with | some (v, r) => (v, r, false) | none => (0, [], true)
theorem and127u (c : UInt8) : bits BinOp.and IntKind.u64 (c.toNat : Int) 127 = ((c.toNat % 128 : Nat) : Int) := by
  have h := u64_and_nat c.toNat 127 (by have := c.toNat_lt; omega) (by decide)
  rw [show (127 : Nat) = 2 ^ 7 - 1 by decide, Nat.and_two_pow_sub_one_eq_mod] at h
  exact h

set_option maxRecDepth 8000 in
set_option maxHeartbeats 16000000 in
theorem refNumR_any (Q : Nat) (l : List UInt8) (bad : Bool) (most : Nat) (w : World) (H : RfAt w Q l bad) (hl : l.length ≤ 1000000000) :
    Calls Try.prog 59 #[.pointer (some ⟨Q, 0, none⟩), .int .u64 most] w fun e w' => e = .returned (.int .u64 (rfNum l bad most).1) ∧ RfAt w' Q (rfNum l bad most).2.1 (rfNum l bad most).2.2 ∧ Frm (fun k => k = Q) w w' := by
  refine hide_post fun D hD => ?_
  have HWR := Lib.hid (refWrong_any Q l bad w H)
  have H0 := Lib.hid H
  have c0 := H.cell 0
  have c1 := H.cell 1
  have f0 := H.frozen 0
  simp at c0 c1
  clear H
  obtain ⟨s, hs⟩ : ∃ s, s = str l := ⟨_, rfl⟩
  rw [← hs] at c0
  have hsz : s.size = l.length := by rw [hs, str_size]
  have HSL := Lib.hid hs
  have HSZ := Lib.hid hsz
  rw [← hsz] at hl
  clear hs hsz
  cases bad
  case true =>
    have HBAD : Hid (∀ w', RfAt w' Q [] true ∧ Frm (fun k => k = Q) w w' → D (.returned (.int .u64 0)) w') := fun w' h => hD.out _ _ ⟨rfl, h⟩
    clear hD
    go_enter Try.func59, Try.ntmps59
    go_wp2
    go_loop [5, 6] (fun x i => x = .int .u64 0 ∧ i = .int .i64 0) (fun _ i => s.size - (intOf i).toNat)
    case atStart => exact ⟨rfl, rfl⟩
    case round =>
      obtain ⟨rfl, rfl⟩ := hrel
      by_cases h0 : 0 < s.size
      · have h0' : (0 : Int) < (s.size : Int) := by omega
        go_wp2_with (go_at_call 70; (with_reducible refine HWR.out.mono ?_); rintro e w2 ⟨rfl, hr, hf⟩; have HR2 := Lib.hid (And.intro hr hf); clear hr hf)
        try go_ret
        exact HBAD.out _ HR2.out
      · have h0' : ¬ (0 : Int) < (s.size : Int) := by omega
        go_wp2_with (go_at_call 70; (with_reducible refine HWR.out.mono ?_); rintro e w2 ⟨rfl, hr, hf⟩; have HR2 := Lib.hid (And.intro hr hf); clear hr hf)
        try go_ret
        exact HBAD.out _ HR2.out
  have HBAD : Hid (rdGo most 0 0 l = none → ∀ w', RfAt w' Q [] true ∧ Frm (fun k => k = Q) w w' → D (.returned (.int .u64 0)) w') := fun hn w' h => by
    refine hD.out _ _ ?_
    simp only [rfNum, hn]
    exact ⟨rfl, h.1, h.2⟩
  have HOK : Hid (∀ v r, rdGo most 0 0 l = some (v, r) → ∀ w', RfAt w' Q r false ∧ Frm (fun k => k = Q) w w' → D (.returned (.int .u64 v)) w') := fun v r hn w' h => by
    refine hD.out _ _ ?_
    simp only [rfNum, hn]
    exact ⟨rfl, h.1, h.2⟩
  clear hD
  go_enter Try.func59, Try.ntmps59
  go_wp2
  go_loop [5, 6] (fun x i => ∃ (k v : Nat), k ≤ s.size ∧ x = .int .u64 v ∧ i = .int .i64 k ∧ Hid (rdGo most 0 0 l = rdGo most k v (l.drop k) ∧ v < 2 ^ (7 * k)) ∧ Hid (v = valL (l.take k) ∧ ∀ x ∈ l.take k, 128 ≤ x.toNat) ∧ k ≤ 9) (fun _ i => s.size - (intOf i).toNat)
  case atStart => exact ⟨0, 0, Nat.zero_le _, rfl, rfl, ⟨rfl, by decide⟩, ⟨rfl, fun x hx => by simp at hx⟩, by omega⟩
  case round =>
    obtain ⟨k, v, hk, rfl, rfl, HR, HVL, hk9⟩ := hrel
    by_cases hlt : k < s.size
    · have hlt2 : k < l.length := by rw [← HSZ.out]; exact hlt
      have hd : l.drop k = l[k] :: l.drop (k + 1) := List.drop_eq_getElem_cons _
      have Hd := Lib.hid hd
      have hsk : s[k] = l[k] := by
        have h := HSL.out
        subst h
        rfl
      have htk : l.take (k + 1) = l.take k ++ [l[k]] := by rw [List.take_add_one, List.getElem?_eq_getElem hlt2]; rfl
      have HTK := Lib.hid htk
      clear hd htk
      generalize hc : l[k] = c at *
      have hc256 : c.toNat < 256 := c.toNat_lt
      by_cases h9 : k = 9 ∧ 1 < c.toNat
      · have HB2 := Lib.hid (HBAD.out (by rw [HR.out.1, Hd.out, rdGo, if_pos h9]))
        have HBAD := HB2
        clear HB2
        obtain ⟨rfl, h9c⟩ := h9
        clear hlt2 hc
        go_wp2_with (go_at_call 70; (with_reducible refine HWR.out.mono ?_); rintro e w2 ⟨rfl, hr, hf⟩; have HR2 := Lib.hid (And.intro hr hf); clear hr hf)
        try go_ret
        exact HBAD.out _ HR2.out
      · have hand : bits BinOp.and IntKind.u64 (c.toNat : Int) 127 = ((c.toNat % 128 : Nat) : Int) := and127u c
        have hm128 : c.toNat % 128 < 128 := Nat.mod_lt _ (by decide)
        generalize hme : c.toNat % 128 = m at *
        have HME := Lib.hid hme
        clear hme
        have hm9 : k = 9 → m ≤ 1 := fun hk => by have := HME.out; omega
        have hor := or_step k v m hk9 hm128 HR.out.2 hm9
        have hvn := or_lt k v m hm128 HR.out.2
        have hdl : (l.take k).length = k := by rw [List.length_take]; omega
        have hvl : v + m * 2 ^ (7 * k) = valL (l.take (k + 1)) := by rw [HTK.out, valL_snoc, hdl, ← HVL.out.1, HME.out]
        have HBG : Hid (128 ≤ c.toNat → ∀ x ∈ l.take (k + 1), 128 ≤ x.toNat) := fun hg x hx => by
          rw [HTK.out] at hx
          rcases List.mem_append.1 hx with hx | hx
          · exact HVL.out.2 x hx
          · rw [List.mem_singleton.1 hx]; exact hg
        have h64 : v + m * 2 ^ (7 * k) < 18446744073709551616 := by
          by_cases hk : k = 9
          · subst hk
            have e : (2 : Nat) ^ (7 * 9) = 9223372036854775808 := by decide
            have h2 := HR.out.2
            have h1 := hm9 rfl
            rw [e] at h2 ⊢
            omega
          · have h2 : (2 : Nat) ^ (7 * (k + 1)) ≤ 2 ^ 63 := Nat.pow_le_pow_right (by decide) (by omega)
            have e : (2 : Nat) ^ 63 = 9223372036854775808 := by decide
            omega
        have hcan := num_canon (l.take k) c HVL.out.2
        rw [← HTK.out, ← hvl, hdl] at hcan
        have HCA : Hid (c.toNat < 128 → (numB (v + m * 2 ^ (7 * k)) = l.take (k + 1) ↔ ¬ (c.toNat = 0 ∧ 0 < k))) := fun h => hcan h hk9 h64
        obtain ⟨v2, hv2⟩ : ∃ v2, v2 = v + m * 2 ^ (7 * k) := ⟨_, rfl⟩
        rw [← hv2] at hor hvn hvl HCA h64
        have HV2 := Lib.hid hv2
        have HVN := Lib.hid hvn
        have HVL2 := Lib.hid hvl
        have H64 := Lib.hid h64
        clear hvn hv2 hvl hcan hdl h64 hc
        by_cases hge : 128 ≤ c.toNat
        · have HE : Hid (rdGo most 0 0 l = rdGo most (k + 1) v2 (l.drop (k + 1))) := by (show _ = _); rw [HR.out.1, Hd.out, rdGo, if_neg h9, if_pos hge, HME.out, HV2.out]
          have hk8 : k ≤ 8 := by omega
          have hk9' : ((k : Int) == 9) = false := by rw [beq_eq_false_iff_ne]; omega
          have hk10 : (k : Int) < 10 := by omega
          have HB2 := Lib.hid (HBG.out hge)
          clear hm9 hlt2
          go_wp2
          go_round
          case rel => exact ⟨k + 1, v2, by omega, by rfl, by go_num, ⟨HE.out, HVN.out⟩, ⟨HVL2.out, HB2.out⟩, by omega⟩
          case measure => simp [intOf]; omega
        · have HG : Hid (rdGo most 0 0 l = if (c.toNat = 0 ∧ 0 < k) ∨ most < v2 then none else some (v2, l.drop (k + 1))) := by (show _ = _); rw [HR.out.1, Hd.out, rdGo, if_neg h9, if_neg hge, HME.out, ← HV2.out]
          have hk10 : (k : Int) < 10 := by omega
          have hge' : ¬ (128 : Int) ≤ (c.toNat : Int) := by omega
          have hk9c : ((k : Int) == 9) = true ∧ ¬ (1 : Int) < (c.toNat : Int) ∨ ((k : Int) == 9) = false := by
            by_cases hk : k = 9
            · exact .inl ⟨by rw [beq_iff_eq]; omega, by omega⟩
            · exact .inr (by rw [beq_eq_false_iff_ne]; omega)
          have HCN := Lib.hid (HCA.out (by omega))
          have E0 : Hid (Ext w w) := Ext.refl _
          have HWV : Hid (∀ V, Ext w V → Calls Try.prog 70 #[.pointer (some ⟨Q, 0, none⟩)] V fun e w' => e = .returned (.tuple #[]) ∧ RfAt w' Q [] true ∧ Frm (fun k => k = Q) w w') := fun V hV => (refWrong_any Q l false V (H0.out.stay hV)).mono fun e w' ⟨h1, h2, h3⟩ => ⟨h1, h2, Frm.tr (Frm.of_below hV _) h3⟩
          have fz : ∀ V, Ext w V → V.cell? ⟨Q, 0, none⟩ = some (.string s) := fun V hV => cell_stay hV c0
          have fy : ∀ V, Ext w V → V.frozen? ⟨Q, 0, none⟩ = false := fun V hV => (H0.out.stay hV).frozen 0
          clear hm9 h9 hge hc256 HBG
          by_cases hmo : most < v2
          · have HE : Hid (rdGo most 0 0 l = none) := by (show _ = _); rw [HG.out, if_pos (.inr hmo)]
            have hmi : (most : Int) < (v2 : Int) := by omega
            have HB2 := Lib.hid (HBAD.out HE.out)
            clear HG HCN hmo hlt2
            rcases hk9c with ⟨k9, c1'⟩ | k9
            all_goals
              go_wp2
              refine ext_begin (by kernel_rfl) ?_
              have E0d := Lib.hid (Ext.drewR E0.out)
              refine ext_take (i := 0) (v := ?_) rfl (by kernel_rfl) (by kernel_rfl) (by kernel_rfl) (fun _ _ _ h => h) (by rfl) ?_ ?_
              rotate_left
              · intro W hW; have hW0 := Ext.trans E0d.out hW; clear hW; go_simp <;> with_reducible rfl
              try simp only [Act.put, List.setIfInBounds_toArray, List.set_cons_zero, List.set_cons_succ]
              refine ext_take (i := 1) (v := ?_) rfl (by kernel_rfl) (by kernel_rfl) (by kernel_rfl) (fun _ _ _ h => h) (by rfl) ?_ ?_
              rotate_left
              · intro W hW; have hW0 := Ext.trans E0d.out hW; clear hW; go_simp <;> with_reducible rfl
              try simp only [Act.put, List.setIfInBounds_toArray, List.set_cons_zero, List.set_cons_succ]
              refine ext_take (i := 2) (v := .bool true) rfl (by kernel_rfl) (by kernel_rfl) (by kernel_rfl) (fun _ _ _ h => h) (by rfl) ?_ ?_
              · intro W hW; have hW0 := Ext.trans E0d.out hW; clear hW; go_simp; all_goals (first | (simp; done) | omega)
              try simp only [Act.put, List.setIfInBounds_toArray, List.set_cons_zero, List.set_cons_succ]
              refine ext_take (i := 3) (v := ?_) rfl (by kernel_rfl) (by kernel_rfl) (by kernel_rfl) (fun _ _ _ h => h) (by rfl) ?_ ?_
              rotate_left
              · intro W hW; have hW0 := Ext.trans E0d.out hW; clear hW; go_simp <;> with_reducible rfl
              try simp only [Act.put, List.setIfInBounds_toArray, List.set_cons_zero, List.set_cons_succ]
              refine ext_skip (i := 4) rfl (by kernel_rfl) (by kernel_rfl) (by kernel_rfl) (fun _ _ _ h => h) (by rfl) ?_
              try simp only [Act.put, List.setIfInBounds_toArray, List.set_cons_zero, List.set_cons_succ]
              refine ext_skip (i := 5) rfl (by kernel_rfl) (by kernel_rfl) (by kernel_rfl) (fun _ _ _ h => h) (by rfl) ?_
              try simp only [Act.put, List.setIfInBounds_toArray, List.set_cons_zero, List.set_cons_succ]
              refine ext_skip (i := 6) rfl (by kernel_rfl) (by kernel_rfl) (by kernel_rfl) (fun _ _ _ h => h) (by rfl) ?_
              try simp only [Act.put, List.setIfInBounds_toArray, List.set_cons_zero, List.set_cons_succ]
              refine ext_skip (i := 7) rfl (by kernel_rfl) (by kernel_rfl) (by kernel_rfl) (fun _ _ _ h => h) (by rfl) ?_
              try simp only [Act.put, List.setIfInBounds_toArray, List.set_cons_zero, List.set_cons_succ]
              refine ext_skip (i := 8) rfl (by kernel_rfl) (by kernel_rfl) (by kernel_rfl) (fun _ _ _ h => h) (by rfl) ?_
              try simp only [Act.put, List.setIfInBounds_toArray, List.set_cons_zero, List.set_cons_succ]
              refine ext_skip (i := 9) rfl (by kernel_rfl) (by kernel_rfl) (by kernel_rfl) (fun _ _ _ h => h) (by rfl) ?_
              try simp only [Act.put, List.setIfInBounds_toArray, List.set_cons_zero, List.set_cons_succ]
              refine ext_skip (i := 10) rfl (by kernel_rfl) (by kernel_rfl) (by kernel_rfl) (fun _ _ _ h => h) (by rfl) ?_
              try simp only [Act.put, List.setIfInBounds_toArray, List.set_cons_zero, List.set_cons_succ]
              refine ext_skip (i := 11) rfl (by kernel_rfl) (by kernel_rfl) (by kernel_rfl) (fun _ _ _ h => h) (by rfl) ?_
              try simp only [Act.put, List.setIfInBounds_toArray, List.set_cons_zero, List.set_cons_succ]
              refine ext_skip (i := 12) rfl (by kernel_rfl) (by kernel_rfl) (by kernel_rfl) (fun _ _ _ h => h) (by rfl) ?_
              try simp only [Act.put, List.setIfInBounds_toArray, List.set_cons_zero, List.set_cons_succ]
              refine ext_skip (i := 13) rfl (by kernel_rfl) (by kernel_rfl) (by kernel_rfl) (fun _ _ _ h => h) (by rfl) ?_
              try simp only [Act.put, List.setIfInBounds_toArray, List.set_cons_zero, List.set_cons_succ]
              refine ext_take (i := 14) (v := ?_) rfl (by kernel_rfl) (by kernel_rfl) (by kernel_rfl) (fun _ _ _ h => h) (by rfl) ?_ ?_
              rotate_left
              · intro W hW; have hW0 := Ext.trans E0d.out hW; clear hW; go_simp <;> with_reducible rfl
              try simp only [Act.put, List.setIfInBounds_toArray, List.set_cons_zero, List.set_cons_succ]
              refine wpAnyH_done (by kernel_rfl) ?_ _
              go_wp2_with (go_at_call 70; (with_reducible refine (HWV.out _ E0d.out).mono ?_); rintro e w2 ⟨rfl, hr, hf⟩; have HR2 := Lib.hid (And.intro hr hf); clear hr hf)
              try go_ret
              exact HB2.out _ HR2.out
          · have hmi : ¬ (most : Int) < (v2 : Int) := by omega
            have HNU : Hid (∀ V, Ext w V → Calls Try.prog 54 #[.int .u64 v2] V fun e w' => e = .returned (.string (str (numB v2))) ∧ Ext V w') := fun V _ => refNum_any v2 V H64.out
            have hks : ((k : Int) + 1).toNat = k + 1 := by omega
            have hkw : IntKind.i64.wrap ((k : Int) + 1) = (k : Int) + 1 := IntWalk.i64_in _ (by omega)
            have hex : s.extract 0 (k + 1) = str (l.take (k + 1)) := by rw [HSL.out]; simp [str, ByteArray.ext_iff]
            have HEX := Lib.hid hex
            have hb1 : 0 ≤ (k : Int) + 1 := by omega
            have hb2 : (k : Int) + 1 ≤ (s.size : Int) := by omega
            clear hex
            by_cases h0 : c.toNat = 0 ∧ 0 < k
            · have HE : Hid (rdGo most 0 0 l = none) := by (show _ = _); rw [HG.out, if_pos (.inl h0)]
              have hne : str (numB v2) ≠ s.extract 0 (k + 1) := by
                rw [HEX.out]
                intro h
                exact (HCN.out.1 (str_inj h)) h0
              have hne2 : ¬ (str (numB v2)).toList = (s.extract 0 (k + 1)).toList := fun h => hne (Go.WideShapes.bytes_inj (by rwa [ByteArray.toList_eq, ByteArray.toList_eq] at h))
              have HB2 := Lib.hid (HBAD.out HE.out)
              clear HG HCN hmo hlt2 h0
              rcases hk9c with ⟨k9, c1'⟩ | k9
              all_goals
                go_wp2
                refine ext_begin (by kernel_rfl) ?_
                have E0d := Lib.hid (Ext.drewR E0.out)
                refine ext_take (i := 0) (v := ?_) rfl (by kernel_rfl) (by kernel_rfl) (by kernel_rfl) (fun _ _ _ h => h) (by rfl) ?_ ?_
                rotate_left
                · intro W hW; have hW0 := Ext.trans E0d.out hW; clear hW; go_simp <;> with_reducible rfl
                try simp only [Act.put, List.setIfInBounds_toArray, List.set_cons_zero, List.set_cons_succ]
                refine ext_take (i := 1) (v := ?_) rfl (by kernel_rfl) (by kernel_rfl) (by kernel_rfl) (fun _ _ _ h => h) (by rfl) ?_ ?_
                rotate_left
                · intro W hW; have hW0 := Ext.trans E0d.out hW; clear hW; go_simp <;> with_reducible rfl
                try simp only [Act.put, List.setIfInBounds_toArray, List.set_cons_zero, List.set_cons_succ]
                refine ext_take (i := 2) (v := .bool false) rfl (by kernel_rfl) (by kernel_rfl) (by kernel_rfl) (fun _ _ _ h => h) (by rfl) ?_ ?_
                · intro W hW; have hW0 := Ext.trans E0d.out hW; clear hW; go_simp; all_goals (first | (simp; done) | omega)
                try simp only [Act.put, List.setIfInBounds_toArray, List.set_cons_zero, List.set_cons_succ]
                refine ext_take (i := 3) (v := ?_) rfl (by kernel_rfl) (by kernel_rfl) (by kernel_rfl) (fun _ _ _ h => h) (by rfl) ?_ ?_
                rotate_left
                · intro W hW; have hW0 := Ext.trans E0d.out hW; clear hW; go_simp <;> with_reducible rfl
                try simp only [Act.put, List.setIfInBounds_toArray, List.set_cons_zero, List.set_cons_succ]
                refine ext_take (i := 4) (v := ?_) rfl (by kernel_rfl) (by kernel_rfl) (by kernel_rfl) (fun _ _ _ h => h) (by rfl) ?_ ?_
                rotate_left
                · intro W hW; have hW0 := Ext.trans E0d.out hW; clear hW; go_simp <;> with_reducible rfl
                try simp only [Act.put, List.setIfInBounds_toArray, List.set_cons_zero, List.set_cons_succ]
                refine ext_take (i := 6) (v := ?_) rfl (by kernel_rfl) (by kernel_rfl) (by kernel_rfl) (fun _ _ _ h => h) (by rfl) ?_ ?_
                rotate_left
                · intro W hW; have hW0 := Ext.trans E0d.out hW; clear hW; go_simp <;> with_reducible rfl
                try simp only [Act.put, List.setIfInBounds_toArray, List.set_cons_zero, List.set_cons_succ]
                refine ext_take (i := 7) (v := ?_) rfl (by kernel_rfl) (by kernel_rfl) (by kernel_rfl) (fun _ _ _ h => h) (by rfl) ?_ ?_
                rotate_left
                · intro W hW; have hW0 := Ext.trans E0d.out hW; clear hW; go_simp <;> with_reducible rfl
                try simp only [Act.put, List.setIfInBounds_toArray, List.set_cons_zero, List.set_cons_succ]
                refine ext_take (i := 8) (v := ?_) rfl (by kernel_rfl) (by kernel_rfl) (by kernel_rfl) (fun _ _ _ h => h) (by rfl) ?_ ?_
                rotate_left
                · intro W hW; have hW0 := Ext.trans E0d.out hW; clear hW; go_simp <;> with_reducible rfl
                try simp only [Act.put, List.setIfInBounds_toArray, List.set_cons_zero, List.set_cons_succ]
                refine ext_take (i := 9) (v := ?_) rfl (by kernel_rfl) (by kernel_rfl) (by kernel_rfl) (fun _ _ _ h => h) (by rfl) ?_ ?_
                rotate_left
                · intro W hW; have hW0 := Ext.trans E0d.out hW; clear hW; go_simp <;> with_reducible rfl
                try simp only [Act.put, List.setIfInBounds_toArray, List.set_cons_zero, List.set_cons_succ]
                refine ext_take (i := 10) (v := ?_) rfl (by kernel_rfl) (by kernel_rfl) (by kernel_rfl) (fun _ _ _ h => h) (by rfl) ?_ ?_
                rotate_left
                · intro W hW; have hW0 := Ext.trans E0d.out hW; clear hW; go_simp <;> with_reducible rfl
                try simp only [Act.put, List.setIfInBounds_toArray, List.set_cons_zero, List.set_cons_succ]
                refine ext_take (i := 11) (v := ?_) rfl (by kernel_rfl) (by kernel_rfl) (by kernel_rfl) (fun _ _ _ h => h) (by rfl) ?_ ?_
                rotate_left
                · intro W hW; have hW0 := Ext.trans E0d.out hW; clear hW; go_simp <;> with_reducible rfl
                try simp only [Act.put, List.setIfInBounds_toArray, List.set_cons_zero, List.set_cons_succ]
                refine ext_take (i := 12) (v := .string (s.extract 0 (k + 1))) rfl (by kernel_rfl) (by kernel_rfl) (by kernel_rfl) (fun _ _ _ h => h) (by rfl) ?_ ?_
                · intro W hW; have hW0 := Ext.trans E0d.out hW; clear hW; go_simp
                try simp only [Act.put, List.setIfInBounds_toArray, List.set_cons_zero, List.set_cons_succ]
                refine ext_call (i := 5) rfl (by kernel_rfl) (by rfl) (fun K' hK => ?_)
                go_simp
                (go_at_call 54; (with_reducible refine (HNU.out _ E0d.out).mono ?_); rintro e w5 ⟨rfl, hx⟩; refine hK _ _ hx ?_; clear hK)
                have Ew5 := Lib.hid (Ext.trans E0d.out hx)
                clear hx
                try simp only [Act.put, List.setIfInBounds_toArray, List.set_cons_zero, List.set_cons_succ]
                refine ext_take (i := 13) (v := .bool true) rfl (by kernel_rfl) (by kernel_rfl) (by kernel_rfl) (fun _ _ _ h => h) (by rfl) ?_ ?_
                · intro W hW; have hW0 := Ext.trans Ew5.out hW; clear hW; go_simp; all_goals (first | done | (simp; done) | simpa using hne2)
                try simp only [Act.put, List.setIfInBounds_toArray, List.set_cons_zero, List.set_cons_succ]
                refine ext_take (i := 14) (v := ?_) rfl (by kernel_rfl) (by kernel_rfl) (by kernel_rfl) (fun _ _ _ h => h) (by rfl) ?_ ?_
                rotate_left
                · intro W hW; have hW0 := Ext.trans Ew5.out hW; clear hW; go_simp <;> with_reducible rfl
                try simp only [Act.put, List.setIfInBounds_toArray, List.set_cons_zero, List.set_cons_succ]
                refine wpAnyH_done (by kernel_rfl) ?_ _
                go_wp2_with (go_at_call 70; (with_reducible refine (HWV.out _ Ew5.out).mono ?_); rintro e w2 ⟨rfl, hr, hf⟩; have HR2 := Lib.hid (And.intro hr hf); clear hr hf)
                try go_ret
                exact HB2.out _ HR2.out
            · have HE : Hid (rdGo most 0 0 l = some (v2, l.drop (k + 1))) := by (show _ = _); rw [HG.out, if_neg (by rintro (h | h); exact h0 h; exact hmo h)]
              have heq : s.extract 0 (k + 1) = str (numB v2) := by rw [HEX.out, HCN.out.2 h0]
              have HST : Hid (∀ V, Ext w V → D (.returned (.int .u64 v2)) (V.setCell ⟨Q, 0, none⟩ (.string (s.extract (k + 1) s.size)))) := fun V hV => by
                refine HOK.out v2 _ HE.out _ ⟨?_, Frm.tr (Frm.of_below hV _) (Frm.of_set _ _ _ rfl)⟩
                have h1 := (Blk.stay H0.out hV).set 0 (.string (s.extract (k + 1) s.size))
                have e : s.extract (k + 1) s.size = str (l.drop (k + 1)) := by rw [HSL.out]; simp [str, ByteArray.ext_iff, ByteArray.size]; exact List.take_of_length_le (by simp)
                rw [e] at h1
                simpa [RfAt, e] using h1
              clear HG HCN hmo hlt2 h0 HBAD
              rcases hk9c with ⟨k9, c1'⟩ | k9
              all_goals
                go_wp2
                refine ext_begin (by kernel_rfl) ?_
                have E0d := Lib.hid (Ext.drewR E0.out)
                refine ext_take (i := 0) (v := ?_) rfl (by kernel_rfl) (by kernel_rfl) (by kernel_rfl) (fun _ _ _ h => h) (by rfl) ?_ ?_
                rotate_left
                · intro W hW; have hW0 := Ext.trans E0d.out hW; clear hW; go_simp <;> with_reducible rfl
                try simp only [Act.put, List.setIfInBounds_toArray, List.set_cons_zero, List.set_cons_succ]
                refine ext_take (i := 1) (v := ?_) rfl (by kernel_rfl) (by kernel_rfl) (by kernel_rfl) (fun _ _ _ h => h) (by rfl) ?_ ?_
                rotate_left
                · intro W hW; have hW0 := Ext.trans E0d.out hW; clear hW; go_simp <;> with_reducible rfl
                try simp only [Act.put, List.setIfInBounds_toArray, List.set_cons_zero, List.set_cons_succ]
                refine ext_take (i := 2) (v := .bool false) rfl (by kernel_rfl) (by kernel_rfl) (by kernel_rfl) (fun _ _ _ h => h) (by rfl) ?_ ?_
                · intro W hW; have hW0 := Ext.trans E0d.out hW; clear hW; go_simp; all_goals (first | (simp; done) | omega)
                try simp only [Act.put, List.setIfInBounds_toArray, List.set_cons_zero, List.set_cons_succ]
                refine ext_take (i := 3) (v := ?_) rfl (by kernel_rfl) (by kernel_rfl) (by kernel_rfl) (fun _ _ _ h => h) (by rfl) ?_ ?_
                rotate_left
                · intro W hW; have hW0 := Ext.trans E0d.out hW; clear hW; go_simp <;> with_reducible rfl
                try simp only [Act.put, List.setIfInBounds_toArray, List.set_cons_zero, List.set_cons_succ]
                refine ext_take (i := 4) (v := ?_) rfl (by kernel_rfl) (by kernel_rfl) (by kernel_rfl) (fun _ _ _ h => h) (by rfl) ?_ ?_
                rotate_left
                · intro W hW; have hW0 := Ext.trans E0d.out hW; clear hW; go_simp <;> with_reducible rfl
                try simp only [Act.put, List.setIfInBounds_toArray, List.set_cons_zero, List.set_cons_succ]
                refine ext_take (i := 6) (v := ?_) rfl (by kernel_rfl) (by kernel_rfl) (by kernel_rfl) (fun _ _ _ h => h) (by rfl) ?_ ?_
                rotate_left
                · intro W hW; have hW0 := Ext.trans E0d.out hW; clear hW; go_simp <;> with_reducible rfl
                try simp only [Act.put, List.setIfInBounds_toArray, List.set_cons_zero, List.set_cons_succ]
                refine ext_take (i := 7) (v := ?_) rfl (by kernel_rfl) (by kernel_rfl) (by kernel_rfl) (fun _ _ _ h => h) (by rfl) ?_ ?_
                rotate_left
                · intro W hW; have hW0 := Ext.trans E0d.out hW; clear hW; go_simp <;> with_reducible rfl
                try simp only [Act.put, List.setIfInBounds_toArray, List.set_cons_zero, List.set_cons_succ]
                refine ext_take (i := 8) (v := ?_) rfl (by kernel_rfl) (by kernel_rfl) (by kernel_rfl) (fun _ _ _ h => h) (by rfl) ?_ ?_
                rotate_left
                · intro W hW; have hW0 := Ext.trans E0d.out hW; clear hW; go_simp <;> with_reducible rfl
                try simp only [Act.put, List.setIfInBounds_toArray, List.set_cons_zero, List.set_cons_succ]
                refine ext_take (i := 9) (v := ?_) rfl (by kernel_rfl) (by kernel_rfl) (by kernel_rfl) (fun _ _ _ h => h) (by rfl) ?_ ?_
                rotate_left
                · intro W hW; have hW0 := Ext.trans E0d.out hW; clear hW; go_simp <;> with_reducible rfl
                try simp only [Act.put, List.setIfInBounds_toArray, List.set_cons_zero, List.set_cons_succ]
                refine ext_take (i := 10) (v := ?_) rfl (by kernel_rfl) (by kernel_rfl) (by kernel_rfl) (fun _ _ _ h => h) (by rfl) ?_ ?_
                rotate_left
                · intro W hW; have hW0 := Ext.trans E0d.out hW; clear hW; go_simp <;> with_reducible rfl
                try simp only [Act.put, List.setIfInBounds_toArray, List.set_cons_zero, List.set_cons_succ]
                refine ext_take (i := 11) (v := ?_) rfl (by kernel_rfl) (by kernel_rfl) (by kernel_rfl) (fun _ _ _ h => h) (by rfl) ?_ ?_
                rotate_left
                · intro W hW; have hW0 := Ext.trans E0d.out hW; clear hW; go_simp <;> with_reducible rfl
                try simp only [Act.put, List.setIfInBounds_toArray, List.set_cons_zero, List.set_cons_succ]
                refine ext_take (i := 12) (v := .string (str (numB v2))) rfl (by kernel_rfl) (by kernel_rfl) (by kernel_rfl) (fun _ _ _ h => h) (by rfl) ?_ ?_
                · intro W hW; have hW0 := Ext.trans E0d.out hW; clear hW; go_simp; all_goals (first | done | (rw [heq]; done) | (intro h; omega))
                try simp only [Act.put, List.setIfInBounds_toArray, List.set_cons_zero, List.set_cons_succ]
                refine ext_call (i := 5) rfl (by kernel_rfl) (by rfl) (fun K' hK => ?_)
                go_simp
                (go_at_call 54; (with_reducible refine (HNU.out _ E0d.out).mono ?_); rintro e w5 ⟨rfl, hx⟩; refine hK _ _ hx ?_; clear hK)
                have Ew5 := Lib.hid (Ext.trans E0d.out hx)
                clear hx
                try simp only [Act.put, List.setIfInBounds_toArray, List.set_cons_zero, List.set_cons_succ]
                refine ext_take (i := 13) (v := .bool false) rfl (by kernel_rfl) (by kernel_rfl) (by kernel_rfl) (fun _ _ _ h => h) (by rfl) ?_ ?_
                · intro W hW; have hW0 := Ext.trans Ew5.out hW; clear hW; go_simp; all_goals (first | done | (simp; done))
                try simp only [Act.put, List.setIfInBounds_toArray, List.set_cons_zero, List.set_cons_succ]
                refine ext_take (i := 14) (v := ?_) rfl (by kernel_rfl) (by kernel_rfl) (by kernel_rfl) (fun _ _ _ h => h) (by rfl) ?_ ?_
                rotate_left
                · intro W hW; have hW0 := Ext.trans Ew5.out hW; clear hW; go_simp <;> with_reducible rfl
                try simp only [Act.put, List.setIfInBounds_toArray, List.set_cons_zero, List.set_cons_succ]
                refine wpAnyH_done (by kernel_rfl) ?_ _
                have c0w := fz _ Ew5.out
                have f0w := fy _ Ew5.out
                go_wp2
                try go_ret
                exact HST.out _ Ew5.out
    · have HB2 := Lib.hid (HBAD.out (by rw [HR.out.1, List.drop_of_length_le (by rw [← HSZ.out]; omega)]; rfl))
      have HBAD := HB2
      clear HB2
      go_wp2_with (go_at_call 70; (with_reducible refine HWR.out.mono ?_); rintro e w2 ⟨rfl, hr, hf⟩; have HR2 := Lib.hid (And.intro hr hf); clear hr hf)
      try go_ret
      exact HBAD.out _ HR2.out
end Go.Proofs.Ytdbnaflaobncgaa
