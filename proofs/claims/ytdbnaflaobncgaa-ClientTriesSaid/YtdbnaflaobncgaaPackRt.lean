/-
  Walks of package pack, further: a reader takes a text, a yes; its end; a reader that is none.
-/
import Derived.Test.YtdbnaflaobncgaaPackRd
namespace Go.Proofs.Ytdbnaflaobncgaa
set_option linter.unusedVariables false
set_option linter.unusedSimpArgs false
open Go.RowKit

def rdText (l : List UInt8) (bad : Bool) (most : Nat) : List UInt8 × List UInt8 × Bool :=
  if (rdNum l bad most).2.2 then ([], (rdNum l bad most).2.1, true)
  else if (rdNum l bad most).2.1.length < (rdNum l bad most).1 then ([], (rdNum l bad most).2.1, true)
  else ((rdNum l bad most).2.1.take (rdNum l bad most).1, (rdNum l bad most).2.1.drop (rdNum l bad most).1, false)
theorem Sl.take' {α : Type} {f : α → Value} {w : World} {A : Option Addr} {l : List α} (h : Sl f w A l) (k : Nat) : Sl f w A (l.take k) := fun j v hj => by
  rw [List.getElem?_take] at hj
  split at hj
  · exact h j v hj
  · cases hj
theorem rdGo_len (most : Nat) : ∀ (l : List UInt8) (i v : Nat) (x : Nat × List UInt8), rdGo most i v l = some x → x.2.length ≤ l.length ∧ x.1 ≤ most
  | [], i, v, x, h => by simp [rdGo] at h
  | c :: r, i, v, x, h => by
    unfold rdGo at h
    split at h
    · cases h
    · split at h
      · have := rdGo_len most r _ _ x h
        simp; omega
      · split at h
        · cases h
        · rename_i h1
          injection h with h
          subst h
          simp; omega
theorem rdNum_len (l : List UInt8) (bad : Bool) (most : Nat) : (rdNum l bad most).2.1.length ≤ l.length ∧ (rdNum l bad most).1 ≤ most := by
  unfold rdNum
  split
  · simp
  · split
    · rename_i v r h
      have := rdGo_len most l 0 0 _ h
      simpa using this
    · simp

/-- what a reader's End answers -/
def endN (l : List UInt8) (bad : Bool) : Int := if bad then 2 else if l.length = 0 then 0 else 9
theorem endR_any (P : Nat) (l : List UInt8) (bad : Bool) (w : World) (H : RdAt w P l bad) (hl : l.length ≤ 1000000000) :
    Calls Try.prog 58 #[.pointer (some ⟨P, 0, none⟩)] w fun e w' => e = .returned (.int .i64 (endN l bad)) ∧ w = w' := by
  obtain ⟨A, cap, h1, h2, h3, h4⟩ := H
  have c0 := h1.cell 0
  have c1 := h1.cell 1
  simp at c0 c1
  unfold endN
  clear h1 h2
  generalize l.length = n at *
  cases bad
  · by_cases hn : n = 0
    · subst hn
      go_enter Try.func58, Try.ntmps58
      go_wp2
      go_ret
      exact ⟨rfl, rfl⟩
    · have hp : (0 : Int) < (n : Int) := by omega
      rw [if_neg (by decide), if_neg hn]
      go_enter Try.func58, Try.ntmps58
      go_wp2
      go_ret
      exact ⟨rfl, rfl⟩
  · rw [if_pos rfl]
    go_enter Try.func58, Try.ntmps58
    go_wp2
    go_ret
    exact ⟨rfl, rfl⟩
theorem numR_nil (m : Int) (w : World) : Calls Try.prog 63 #[.pointer none, .int .u64 m] w fun e w' => e = .returned (.int .u64 0) ∧ w = w' := by
  go_enter Try.func63, Try.ntmps63
  go_wp2
  go_ret
  exact ⟨rfl, rfl⟩
theorem endR_nil (w : World) : Calls Try.prog 58 #[.pointer none] w fun e w' => e = .returned (.int .i64 2) ∧ w = w' := by
  go_enter Try.func58, Try.ntmps58
  go_wp2
  go_ret
  exact ⟨rfl, rfl⟩
theorem textR_nil (m : Nat) (w : World) (hm : m ≤ 1000000000) : Calls Try.prog 69 #[.pointer none, .int .i64 m] w fun e w' => e = .returned (.string ⟨#[]⟩) ∧ w = w' := by
  go_enter Try.func69, Try.ntmps69
  go_wp2_with (go_at_call 63; (with_reducible refine (numR_nil _ _).mono ?_); rintro e w1 ⟨rfl, rfl⟩)
  go_ret
  exact ⟨rfl, rfl⟩

set_option maxRecDepth 8000 in
set_option maxHeartbeats 8000000 in
theorem textR_any (P : Nat) (l : List UInt8) (bad : Bool) (most : Nat) (mi : Int) (w : World) (hmi : mi = most ∨ mi < 0 ∧ most = 0) (H : RdAt w P l bad) (hl : l.length ≤ 1000000000) (hmo : most ≤ 9223372036854775807) :
    Calls Try.prog 69 #[.pointer (some ⟨P, 0, none⟩), .int .i64 mi] w fun e w' => e = .returned (.string (str (rdText l bad most).1)) ∧ RdAt w' P (rdText l bad most).2.1 (rdText l bad most).2.2 ∧ Frm (fun k => k = P) w w' := by
  refine hide_post fun D hD => ?_
  have HC : Hid (Calls Try.prog 63 #[.pointer (some ⟨P, 0, none⟩), .int .u64 most] w fun e w' => e = .returned (.int .u64 (rdNum l bad most).1) ∧ RdAt w' P (rdNum l bad most).2.1 (rdNum l bad most).2.2 ∧ Frm (fun k => k = P) w w') := numR_any P l bad most w H hl
  have hlen := rdNum_len l bad most
  clear H
  unfold rdText at hD
  generalize rdNum l bad most = r at *
  obtain ⟨v, L, b⟩ := r
  simp only at *
  obtain ⟨hlen1, hlen2⟩ := hlen
  have HL2 : Hid (L.length ≤ 1000000000) := Nat.le_trans hlen1 hl
  clear hlen2
  have HM := Lib.hid hmo
  clear hmo
  rcases hmi with rfl | ⟨hm1, rfl⟩
  case' inl => have HC1 := HC
  case' inr => have HC1 : Hid (Calls Try.prog 63 #[.pointer (some ⟨P, 0, none⟩), .int .u64 0] w fun e w' => e = .returned (.int .u64 v) ∧ RdAt w' P L b ∧ Frm (fun k => k = P) w w') := HC.out
  all_goals
    have hM2 := HM.out
    clear HC
    go_enter Try.func69, Try.ntmps69
    go_wp2_with fail
    clear hM2
    go_at_call 63
    with_reducible refine HC1.out.mono ?_
    rintro e w1 ⟨rfl, hR, hF⟩
    have HF1 := Lib.hid hF
    have HR := Lib.hid hR
    obtain ⟨A, cap, k1, k2, k3, k4⟩ := hR
    have c0 := k1.cell 0
    have c1 := k1.cell 1
    have f0 := k1.frozen 0
    simp at c0 c1
    have HB := Lib.hid k1
    have HS := Lib.hid k2
    clear hF HC1 k1 k2
    have hL5 := HL2.out
    cases b
    · have HST : Hid (∀ A' m' c', m' = (L.drop v).length → v ≤ L.length → Sl u8 w1 A' (L.drop v) → m' ≤ c' → (∀ a, A' = some a → ∃ b o, a = ⟨b, o, none⟩ ∧ b ≠ P) → D (.returned (.string (str (L.take v)))) (w1.setCell ⟨P, 0, none⟩ (.slice A' m' c'))) := fun A' m' c' e1 e0 e2 e3 e4 => by
        subst e1
        have hF : Frm (fun k => k = P) w1 (w1.setCell ⟨P, 0, none⟩ (.slice A' (L.drop v).length c')) := Frm.of_set _ _ _ rfl
        refine hD.out _ _ ?_
        rw [if_neg (by decide), if_neg (by omega)]
        exact ⟨rfl, ⟨A', c', by have := HB.out.set 0 (.slice A' (L.drop v).length c'); simpa using this, e2.frm' hF (fun a ha => by obtain ⟨b, o, rfl, hb⟩ := e4 a ha; exact hb), e3, e4⟩, Frm.tr HF1.out hF⟩
      by_cases hv : L.length < v
      · have HFA : Hid (Calls Try.prog 72 #[.pointer (some ⟨P, 0, none⟩)] w1 fun e w' => e = .returned (.int .u64 0) ∧ RdAt w' P L true ∧ Frm (fun k => k = P) w1 w') := fail_any P L false w1 HR.out
        have HE : Hid (∀ w', RdAt w' P L true ∧ Frm (fun k => k = P) w1 w' → D (.returned (.string ⟨#[]⟩)) w') := fun w' h => by
          refine hD.out _ _ ?_
          rw [if_neg (by decide), if_pos hv]
          exact ⟨rfl, h.1, Frm.tr HF1.out h.2⟩
        clear hD k4 HST
        generalize L.length = n at *
        go_wp2_with (go_at_call 72; (with_reducible refine HFA.out.mono ?_); rintro e w2 ⟨rfl, hx⟩; have HX := Lib.hid hx; clear hx)
        try go_ret
        exact HE.out _ HX.out
      · have hv' : v ≤ L.length := by omega
        have hvc : v ≤ cap := by omega
        clear hD HR
        rcases A with _ | a
        · have hL0 : L = [] := by
            cases hLc : L with
            | nil => rfl
            | cons x r => obtain ⟨b, o, e, _⟩ := HS.out 0 x (by rw [hLc]; rfl); cases e
          subst hL0
          obtain rfl : v = 0 := by simpa using hv'
          have hcv : ∀ c, (convert 54 9 (.slice none 0 c)).run Try.prog w1 = .ok (.string (str [])) w1 := fun c => run_str 54 9 5 none [] c Try.underlying54 Try.underlying5 Try.underlying9 (Sl.nil _ _ _)
          rw [List.length_nil] at c0
          go_wp2
          try go_ret
          exact HST.out _ _ _ (by simp) (by simp) (Sl.nil _ _ _) (Nat.zero_le _) (fun a ha => by cases ha)
        · obtain ⟨b', o', rfl, hb⟩ := k4 _ rfl
          have htl : (L.take v).length = v := by rw [List.length_take]; omega
          have hcv : (convert 54 9 (.slice (some ⟨b', o', none⟩) v cap)).run Try.prog w1 = .ok (.string (str (L.take v))) w1 := by
            have := run_str (P := Try.prog) (w := w1) 54 9 5 (some ⟨b', o', none⟩) (L.take v) cap Try.underlying54 Try.underlying5 Try.underlying9 (HS.out.take' v)
            rwa [htl] at this
          have HSD : Hid (Sl u8 w1 (some ⟨b', o' + v, none⟩) (L.drop v)) := sl_drop HS.out v
          have HLD : Hid ((L.drop v).length = L.length - v) := List.length_drop
          have HNB := Lib.hid hb
          clear htl k4 hb
          generalize str (L.take v) = st at *
          generalize L.drop v = rr at *
          generalize L.length = n at *
          have hvi : (v : Int) ≤ (n : Int) := by omega
          have hvi2 : (v : Int) ≤ (cap : Int) := by omega
          have hvi3 : (0 : Int) ≤ (v : Int) := by omega
          by_cases hcp : cap = v
          · subst hcp
            obtain rfl : n = cap := by omega
            go_wp2
            try go_ret
            refine HST.out _ _ _ ?_ hv' ?_ ?_ ?_
            · have h5 := HLD.out; omega
            · have h5 := HLD.out; rw [List.eq_nil_of_length_eq_zero (l := rr) (by omega)]; exact Sl.nil _ _ _
            · omega
            · intro a ha; injection ha with ha; subst ha; exact ⟨_, _, rfl, HNB.out⟩
          · go_wp2
            try go_ret
            refine HST.out _ _ _ ?_ hv' ?_ ?_ ?_
            · have h5 := HLD.out; omega
            · exact HSD.out
            · omega
            · intro a ha; injection ha with ha; subst ha; exact ⟨_, _, rfl, HNB.out⟩
    · have HE : Hid (D (.returned (.string ⟨#[]⟩)) w1) := hD.out _ _ ⟨rfl, HR.out, HF1.out⟩
      clear hD k4
      generalize L.length = n at *
      go_wp2
      try go_ret
      exact HE.out
end Go.Proofs.Ytdbnaflaobncgaa
