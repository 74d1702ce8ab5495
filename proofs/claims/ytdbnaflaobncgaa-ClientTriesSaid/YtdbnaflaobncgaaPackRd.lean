/-
  Walks of package pack, further: a reader takes a number, a text, a yes; its end.
-/
import Derived.Test.YtdbnaflaobncgaaPack3
namespace Go.Proofs.Ytdbnaflaobncgaa
set_option linter.unusedVariables false
set_option linter.unusedSimpArgs false
open Go.RowKit

/-- a number that stands there, from its i-th byte on, v having come -/
def rdGo (most : Nat) : Nat → Nat → List UInt8 → Option (Nat × List UInt8)
  | _, _, [] => none
  | i, v, c :: r =>
    if i = 9 ∧ 1 < c.toNat then none
    else if 128 ≤ c.toNat then rdGo most (i + 1) (v + c.toNat % 128 * 2 ^ (7 * i)) r
    else if (c.toNat = 0 ∧ 0 < i) ∨ most < v + c.toNat % 128 * 2 ^ (7 * i) then none
    else some (v + c.toNat % 128 * 2 ^ (7 * i), r)
/-- what a reader's Num answers: the number, what is left, whether it is wrong -/
def rdNum (l : List UInt8) (bad : Bool) (most : Nat) : Nat × List UInt8 × Bool :=
  if bad then (0, l, true) else match rdGo most 0 0 l with | some (v, r) => (v, r, false) | none => (0, l, true)

theorem IntKind.wrap_u64_nat (n : Nat) (h : n < 18446744073709551616) : IntKind.u64.wrap (n : Int) = (n : Int) := by
  rw [show IntKind.u64.wrap (n : Int) = (n : Int) % 18446744073709551616 by simp [IntKind.wrap, IntKind.bits, IntKind.signed]]
  omega
theorem and_all : ∀ n : Fin 256, bits BinOp.and IntKind.u8 (n.val : Int) 127 = ((n.val % 128 : Nat) : Int) := by decide +kernel
theorem and127 (c : UInt8) : bits BinOp.and IntKind.u8 (c.toNat : Int) 127 = ((c.toNat % 128 : Nat) : Int) := and_all ⟨c.toNat, c.toNat_lt⟩

theorem sl_drop {α : Type} {f : α → Value} {w : World} {b o : Nat} {l : List α} (h : Sl f w (some ⟨b, o, none⟩) l) (k : Nat) : Sl f w (some ⟨b, o + k, none⟩) (l.drop k) := fun j v hj => by
  rw [List.getElem?_drop] at hj
  obtain ⟨b', o', e, hc⟩ := h (k + j) v hj
  injection e with e
  injection e with e1 e2
  subst e1 e2
  exact ⟨b, o + k, rfl, by rw [Nat.add_assoc]; exact hc⟩
theorem or_lt (k v m : Nat) (hm : m < 128) (hv : v < 2 ^ (7 * k)) : v + m * 2 ^ (7 * k) < 2 ^ (7 * (k + 1)) := by
  have e : 2 ^ (7 * (k + 1)) = 128 * 2 ^ (7 * k) := by rw [Nat.mul_add, Nat.pow_add]; omega
  have h : (m + 1) * 2 ^ (7 * k) ≤ 128 * 2 ^ (7 * k) := Nat.mul_le_mul_right _ (by omega)
  rw [e]
  rw [Nat.add_mul] at h
  omega
theorem or_step (k v m : Nat) (hk : k ≤ 9) (hm : m < 128) (hv : v < 2 ^ (7 * k)) (h9 : k = 9 → m ≤ 1) :
    bits BinOp.or IntKind.u64 (v : Int) (IntKind.u64.wrap ((m : Int) * 2 ^ (7 * k))) = ((v + m * 2 ^ (7 * k) : Nat) : Int) := by
  have hle : m * 2 ^ (7 * k) < 18446744073709551616 ∧ v < 18446744073709551616 := by
    by_cases h : k = 9
    · subst h
      have := h9 rfl
      have e : (2 : Nat) ^ (7 * 9) = 9223372036854775808 := by decide
      rw [e] at hv ⊢
      omega
    · have h2 : (2 : Nat) ^ (7 * k) ≤ 2 ^ 56 := Nat.pow_le_pow_right (by decide) (by omega)
      have e : (2 : Nat) ^ 56 = 72057594037927936 := by decide
      rw [e] at h2
      have h3 : m * 2 ^ (7 * k) ≤ 127 * 72057594037927936 := Nat.mul_le_mul (by omega) h2
      omega
  have e1 : ((m : Int) * 2 ^ (7 * k)) = ((m * 2 ^ (7 * k) : Nat) : Int) := by rw [Int.natCast_mul, Int.natCast_pow]; rfl
  rw [e1, IntKind.wrap_u64_nat _ hle.1, u64_or_nat v _ hle.2 hle.1, Nat.or_comm, nat_join (7 * k) (m * 2 ^ (7 * k)) v (Nat.mul_mod_left _ _) hv, Nat.add_comm]

set_option maxRecDepth 8000 in
set_option maxHeartbeats 8000000 in
theorem numR_any (P : Nat) (l : List UInt8) (bad : Bool) (most : Nat) (w : World) (H : RdAt w P l bad) (hl : l.length ≤ 1000000000) :
    Calls Try.prog 63 #[.pointer (some ⟨P, 0, none⟩), .int .u64 most] w fun e w' => e = .returned (.int .u64 (rdNum l bad most).1) ∧ RdAt w' P (rdNum l bad most).2.1 (rdNum l bad most).2.2 ∧ Frm (fun k => k = P) w w' := by
  refine hide_post fun D hD => ?_
  have H0 := Lib.hid H
  obtain ⟨A, cap, h1, h2, h3, h4⟩ := H
  have c0 := h1.cell 0
  have c1 := h1.cell 1
  simp at c0 c1
  cases bad
  case true =>
    have hE : Hid (D (.returned (.int .u64 0)) w) := hD.out _ _ ⟨rfl, H0.out, Frm.refl _ _⟩
    clear h1 h2 hD H0
    generalize l.length = n at *
    go_enter Try.func63, Try.ntmps63
    go_wp2
    try go_ret
    exact hE.out
  have HFL : Hid (rdGo most 0 0 l = none → ∀ w', RdAt w' P l true ∧ Frm (fun k => k = P) w w' → D (.returned (.int .u64 0)) w') := fun hn w' h => by
    refine hD.out _ _ ?_
    simp only [rdNum, hn]
    exact ⟨rfl, h.1, h.2⟩
  have HOK : Hid (∀ v r, rdGo most 0 0 l = some (v, r) → ∀ w', RdAt w' P r false ∧ Frm (fun k => k = P) w w' → D (.returned (.int .u64 v)) w') := fun v r hn w' h => by
    refine hD.out _ _ ?_
    simp only [rdNum, hn]
    exact ⟨rfl, h.1, h.2⟩
  have HFA : Hid (Calls Try.prog 72 #[.pointer (some ⟨P, 0, none⟩)] w fun e w' => e = .returned (.int .u64 0) ∧ RdAt w' P l true ∧ Frm (fun k => k = P) w w') := fail_any P l false w H0.out
  have HS := Lib.hid h2
  have HB := Lib.hid h1
  have H4 := Lib.hid h4
  clear h1 h2 hD H0 h4
  obtain ⟨n, hn⟩ : ∃ n, n = l.length := ⟨_, rfl⟩
  rw [← hn] at hl h3 c0
  have HN := Lib.hid hn
  clear hn
  go_enter Try.func63, Try.ntmps63
  go_wp2
  go_loop [5, 21] (fun x i => ∃ (k v : Nat), k ≤ n ∧ x = .int .u64 v ∧ i = .int .i64 k ∧ Hid (rdGo most 0 0 l = rdGo most k v (l.drop k) ∧ v < 2 ^ (7 * k)) ∧ k ≤ 9) (fun _ i => n - (intOf i).toNat)
  case atStart => exact ⟨0, 0, Nat.zero_le _, rfl, rfl, ⟨rfl, by decide⟩, by omega⟩
  case round =>
    obtain ⟨k, v, hk, rfl, rfl, HR, hk9⟩ := hrel
    by_cases hlt : k < n
    · obtain ⟨b, o, rfl, hcell⟩ := HS.out.at_ (k := k) (by rw [← HN.out]; exact hlt)
      have hd : l.drop k = l[k]'(by rw [← HN.out]; exact hlt) :: l.drop (k + 1) := List.drop_eq_getElem_cons _
      have Hd := Lib.hid hd
      clear hd
      generalize l[k]'(by rw [← HN.out]; exact hlt) = c at *
      have hc256 : c.toNat < 256 := c.toNat_lt
      unfold Go.Proofs.Ytdbnaflaobncgaa.u8 at hcell
      by_cases h9 : k = 9 ∧ 1 < c.toNat
      · have HE : Hid (rdGo most 0 0 l = none) := by (show _ = _); rw [HR.out.1, Hd.out, rdGo, if_pos h9]
        obtain ⟨rfl, h9c⟩ := h9
        go_wp2_with (go_at_call 72; (with_reducible refine HFA.out.mono ?_); rintro e w1 ⟨rfl, hx⟩; have HX := Lib.hid hx; clear hx)
        try go_ret
        exact HFL.out HE.out _ HX.out
      · have hand : bits BinOp.and IntKind.u8 (c.toNat : Int) 127 = ((c.toNat % 128 : Nat) : Int) := and127 c
        have hm128 : c.toNat % 128 < 128 := Nat.mod_lt _ (by decide)
        generalize hme : c.toNat % 128 = m at *
        have HME := Lib.hid hme
        clear hme
        have hm9 : k = 9 → m ≤ 1 := fun hk => by have := HME.out; omega
        have hor := or_step k v m hk9 hm128 HR.out.2 hm9
        have hvn := or_lt k v m hm128 HR.out.2
        obtain ⟨v2, hv2⟩ : ∃ v2, v2 = v + m * 2 ^ (7 * k) := ⟨_, rfl⟩
        rw [← hv2] at hor hvn
        have HV2 := Lib.hid hv2
        have HVN := Lib.hid hvn
        clear hvn hv2
        by_cases hge : 128 ≤ c.toNat
        · have HE : Hid (rdGo most 0 0 l = rdGo most (k + 1) v2 (l.drop (k + 1))) := by (show _ = _); rw [HR.out.1, Hd.out, rdGo, if_neg h9, if_pos hge, HME.out, HV2.out]
          have hk8 : k ≤ 8 := by omega
          have hk9' : ((k : Int) == 9) = false := by rw [beq_eq_false_iff_ne]; omega
          clear hm9
          go_wp2
          go_round
          case rel => exact ⟨k + 1, v2, by omega, by rfl, by go_num, ⟨HE.out, HVN.out⟩, by omega⟩
          case measure => simp [intOf]; omega
        · have HG : Hid (rdGo most 0 0 l = if (c.toNat = 0 ∧ 0 < k) ∨ most < v2 then none else some (v2, l.drop (k + 1))) := by (show _ = _); rw [HR.out.1, Hd.out, rdGo, if_neg h9, if_neg hge, HME.out, ← HV2.out]
          have hge' : ¬ (128 : Int) ≤ (c.toNat : Int) := by omega
          have hk9c : ((k : Int) == 9) = true ∧ ¬ (1 : Int) < (c.toNat : Int) ∨ ((k : Int) == 9) = false := by
            by_cases hk : k = 9
            · exact .inl ⟨by rw [beq_iff_eq]; omega, by omega⟩
            · exact .inr (by rw [beq_eq_false_iff_ne]; omega)
          have h0c : ((c.toNat : Int) == 0) = true ∧ (0 : Int) < (k : Int) ∨ ((c.toNat : Int) == 0) = true ∧ ¬ (0 : Int) < (k : Int) ∨ ((c.toNat : Int) == 0) = false := by
            by_cases hc : c.toNat = 0
            · by_cases hk : 0 < k
              · exact .inl ⟨by rw [beq_iff_eq]; omega, by omega⟩
              · exact .inr (.inl ⟨by rw [beq_iff_eq]; omega, by omega⟩)
            · exact .inr (.inr (by rw [beq_eq_false_iff_ne]; omega))
          have h0n : Hid (((c.toNat : Int) == 0) = true ↔ c.toNat = 0) := by (show _ ↔ _); rw [beq_iff_eq]; omega
          clear hm9 h9 hge hc256
          rcases h0c with ⟨g1, g2⟩ | h0c
          · have HE : Hid (rdGo most 0 0 l = none) := by (show _ = _); rw [HG.out, if_pos (.inl ⟨h0n.out.1 g1, by omega⟩)]
            clear HG h0n
            rcases hk9c with ⟨k9, c1'⟩ | k9
            all_goals
              go_wp2_with (go_at_call 72; (with_reducible refine HFA.out.mono ?_); rintro e w1 ⟨rfl, hx⟩; have HX := Lib.hid hx; clear hx)
              try go_ret
              exact HFL.out HE.out _ HX.out
          · by_cases hmo : most < v2
            · have HE : Hid (rdGo most 0 0 l = none) := by (show _ = _); rw [HG.out, if_pos (.inr hmo)]
              clear HG h0n
              rcases hk9c with ⟨k9, c1'⟩ | k9
              all_goals
                rcases h0c with ⟨g1, g2⟩ | g1
                all_goals
                  go_wp2_with (go_at_call 72; (with_reducible refine HFA.out.mono ?_); rintro e w1 ⟨rfl, hx⟩; have HX := Lib.hid hx; clear hx)
                  try go_ret
                  exact HFL.out HE.out _ HX.out
            · have HE : Hid (rdGo most 0 0 l = some (v2, l.drop (k + 1))) := by
                show _ = _
                rw [HG.out, if_neg]
                rintro (⟨q1, q2⟩ | q)
                · rcases h0c with ⟨g1, g2⟩ | g1
                  · omega
                  · rw [h0n.out.2 q1] at g1; cases g1
                · exact hmo q
              have HLD : Hid ((l.drop (k + 1)).length = n - (k + 1)) := by (show _ = _); rw [List.length_drop, HN.out]
              have HSD : Hid (Sl u8 w (some ⟨b, o + (k + 1), none⟩) (l.drop (k + 1))) := sl_drop HS.out (k + 1)
              have HNP : Hid (b ≠ P) := by (show _ ≠ _); obtain ⟨b', o', e, hb⟩ := H4.out _ rfl; injection e with e1 e2; subst e1; exact hb
              have HST : Hid (∀ A' m' c', m' = (l.drop (k + 1)).length → Sl Go.Proofs.Ytdbnaflaobncgaa.u8 w A' (l.drop (k + 1)) → m' ≤ c' → (∀ a, A' = some a → ∃ b o, a = ⟨b, o, none⟩ ∧ b ≠ P) → D (.returned (.int .u64 v2)) (w.setCell ⟨P, 0, none⟩ (.slice A' m' c'))) := fun A' m' c' e1 e2 e3 e4 => by
                subst e1
                have hF : Frm (fun k => k = P) w (w.setCell ⟨P, 0, none⟩ (.slice A' (l.drop (k + 1)).length c')) := Frm.of_set _ _ _ rfl
                exact HOK.out v2 _ HE.out _ ⟨⟨A', c', by have := HB.out.set 0 (.slice A' (l.drop (k + 1)).length c'); simpa using this, e2.frm' hF (fun a ha => by obtain ⟨b, o, rfl, hb⟩ := e4 a ha; exact hb), e3, e4⟩, hF⟩
              have f0 := HB.out.frozen 0
              clear HG h0n HR HE
              generalize l.drop (k + 1) = rr at *
              rcases h0c with ⟨g1, g2⟩ | g1
              · rcases hk9c with ⟨k9, c1'⟩ | k9
                · rw [beq_iff_eq] at k9; omega
                · by_cases hcp : cap = k + 1
                  · subst hcp
                    go_wp2
                    try go_ret
                    obtain rfl : k = 0 := by omega
                    obtain rfl : n = 1 := by omega
                    refine HST.out _ _ _ ?_ ?_ ?_ ?_
                    · have h5 := HLD.out; omega
                    · have h5 := HLD.out; rw [List.eq_nil_of_length_eq_zero (l := rr) (by omega)]; exact Sl.nil _ _ _
                    · omega
                    · intro a ha; injection ha with ha; subst ha; exact ⟨_, _, rfl, HNP.out⟩
                  · go_wp2
                    try go_ret
                    obtain rfl : k = 0 := by omega
                    refine HST.out _ _ _ ?_ ?_ ?_ ?_
                    · have h5 := HLD.out; omega
                    · exact HSD.out
                    · omega
                    · intro a ha; injection ha with ha; subst ha; exact ⟨_, _, rfl, HNP.out⟩
              · by_cases hcp : cap = k + 1
                · obtain rfl : n = k + 1 := by omega
                  subst hcp
                  rcases hk9c with ⟨k9, c1'⟩ | k9
                  all_goals
                    go_wp2
                    try go_ret
                    refine HST.out _ _ _ ?_ ?_ ?_ ?_
                    · have h5 := HLD.out; omega
                    · have h5 := HLD.out; rw [List.eq_nil_of_length_eq_zero (l := rr) (by omega)]; exact Sl.nil _ _ _
                    · omega
                    · intro a ha; injection ha with ha; subst ha; exact ⟨_, _, rfl, HNP.out⟩
                · rcases hk9c with ⟨k9, c1'⟩ | k9
                  all_goals
                    go_wp2
                    try go_ret
                    refine HST.out _ _ _ ?_ ?_ ?_ ?_
                    · have h5 := HLD.out; omega
                    · exact HSD.out
                    · omega
                    · intro a ha; injection ha with ha; subst ha; exact ⟨_, _, rfl, HNP.out⟩
    · have HE : Hid (rdGo most 0 0 l = none) := by (show _ = _); rw [HR.out.1, List.drop_of_length_le (by have := HN.out; omega), rdGo]
      go_wp2_with (go_at_call 72; (with_reducible refine HFA.out.mono ?_); rintro e w1 ⟨rfl, hx⟩; have HX := Lib.hid hx; clear hx)
      try go_ret
      exact HFL.out HE.out _ HX.out
end Go.Proofs.Ytdbnaflaobncgaa
