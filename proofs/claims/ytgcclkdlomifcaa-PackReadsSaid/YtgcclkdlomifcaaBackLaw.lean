/-
  What was put is read back in its order; a part of it, cut off anywhere, is wrong.
-/
import Derived.Test.YtgcclkdlomifcaaNumLaw
import Derived.Test.YtgcclkdlomifcaaOpenOps1
namespace Go.Proofs.Ytgcclkdlomifcaa
set_option linter.unusedVariables false
set_option linter.unusedSimpArgs false
open Go.RowKit

def opB (o : Op1) : List UInt8 := if o.kind = 0 then numB o.n else if o.kind = 1 then textB o.s else yesB o.yes
def bytesOf : List Op1 → List UInt8
  | [] => []
  | o :: r => opB o ++ bytesOf r
def rdOp (o : Op1) (l : List UInt8) (bad : Bool) : List UInt8 × Bool :=
  if o.kind = 0 then (rdNum l bad 18446744073709551615).2 else if o.kind = 1 then (rdText l bad 100).2 else (rdNum l bad 1).2
def fin : List Op1 → List UInt8 → Bool → Bool
  | [], _, b => b
  | o :: r, l, b => fin r (rdOp o l b).1 (rdOp o l b).2

theorem bytesOf_append : ∀ (a b : List Op1), bytesOf (a ++ b) = bytesOf a ++ bytesOf b
  | [], _ => rfl
  | o :: r, b => by rw [List.cons_append, bytesOf, bytesOf, bytesOf_append r b, List.append_assoc]
theorem yesB_num (b : Bool) : yesB b = numB (if b then 1 else 0) := by cases b <;> decide
theorem opB_ne (o : Op1) : opB o ≠ [] := by
  unfold opB
  split
  · exact numB_ne _
  · split
    · unfold textB
      intro h
      exact numB_ne _ (List.append_eq_nil_iff.1 h).1
    · rw [yesB_num]; exact numB_ne _
theorem rdText_put2 (s : ByteArray) (m : Nat) (r : List UInt8) (hs : s.size < 18446744073709551616) : rdText (numB s.size ++ (s.data.toList ++ r)) false m = if m < s.size then ([], numB s.size ++ (s.data.toList ++ r), true) else (s.data.toList, r, false) := by
  have hz : s.data.toList.length = s.size := by rw [Array.length_toList]; rfl
  unfold rdText
  rw [rdNum_numB m s.size _ hs]
  by_cases h : m < s.size
  · rw [if_pos h, if_pos h, if_pos rfl]
  · rw [if_neg h, if_neg h]
    simp only [Bool.false_eq_true, if_false]
    rw [if_neg (by rw [List.length_append, hz]; omega), ← hz, List.take_left, List.drop_left]
theorem rdText_whole (s : ByteArray) (r : List UInt8) (hs : s.size ≤ 100) : rdText (textB s ++ r) false 100 = (s.data.toList, r, false) := by
  have h := rdText_put2 s 100 r (by omega)
  rw [if_neg (by omega), ← List.append_assoc] at h
  exact h
theorem rdNum_whole (n m : Nat) (r : List UInt8) (hn : n < 18446744073709551616) (h : n ≤ m) : rdNum (numB n ++ r) false m = (n, r, false) := by
  rw [rdNum_numB m n r hn, if_neg (by omega)]
theorem rdOp_whole (o : Op1) (r : List UInt8) (hn : o.n < 18446744073709551616) (hs : o.s.size ≤ 100) : rdOp o (opB o ++ r) false = (r, false) := by
  unfold rdOp opB
  by_cases h0 : o.kind = 0
  · rw [if_pos h0, if_pos h0, rdNum_whole _ _ _ hn (by omega)]
  · rw [if_neg h0, if_neg h0]
    by_cases h1 : o.kind = 1
    · rw [if_pos h1, if_pos h1, rdText_whole _ _ hs]
    · rw [if_neg h1, if_neg h1, yesB_num, rdNum_whole _ _ _ (by split <;> omega) (by split <;> omega)]
theorem rdOp_bad (o : Op1) (l : List UInt8) : rdOp o l true = (l, true) := by
  unfold rdOp
  rw [rdNum_bad, rdNum_bad, rdText_bad]
  split
  · rfl
  · split <;> rfl
theorem fin_bad : ∀ (os : List Op1) (l : List UInt8), fin os l true = true
  | [], _ => rfl
  | o :: r, l => by rw [fin, rdOp_bad]; exact fin_bad r l
theorem rdGo_big (most : Nat) : ∀ (l : List UInt8) (i v : Nat), (∀ x ∈ l, 128 ≤ x.toNat) → rdGo most i v l = none
  | [], _, _, _ => rfl
  | c :: r, i, v, h => by
    rw [rdGo]
    split
    · rfl
    · rw [if_pos (h c (List.mem_cons_self ..))]
      exact rdGo_big most r _ _ (fun x hx => h x (List.mem_cons_of_mem _ hx))
theorem rdNum_part {n most : Nat} {p q : List UInt8} (h : numB n = p ++ q) (hq : q ≠ []) : rdNum p false most = (0, p, true) := by
  obtain ⟨d, c, e, hd⟩ := numF_big 9 n
  have e2 : p ++ q = d ++ [c] := h.symm.trans e
  obtain ⟨q', x, rfl⟩ : ∃ q' x, q = q' ++ [x] := ⟨q.dropLast, q.getLast hq, (List.dropLast_concat_getLast hq).symm⟩
  rw [← List.append_assoc] at e2
  have e3 := (List.append_inj' e2 rfl).1
  exact rdNum_none (rdGo_big most p 0 0 (fun y hy => hd y (by rw [← e3]; exact List.mem_append_left _ hy)))
theorem rdOp_part (o : Op1) {p q : List UInt8} (h : opB o = p ++ q) (hq : q ≠ []) (hs : o.s.size ≤ 100) : (rdOp o p false).2 = true := by
  unfold opB at h
  unfold rdOp
  by_cases h0 : o.kind = 0
  · rw [if_pos h0] at h ⊢
    rw [rdNum_part h hq]
  · rw [if_neg h0] at h ⊢
    by_cases h1 : o.kind = 1
    · rw [if_pos h1] at h ⊢
      have hz : o.s.data.toList.length = o.s.size := by rw [Array.length_toList]; rfl
      unfold textB at h
      have hb : ∀ q', q' ≠ [] → numB o.s.size = p ++ q' → (rdText p false 100).2.2 = true := fun q' h1 h2 => by
        unfold rdText
        rw [rdNum_part h2 h1, if_pos rfl]
      have hg : ∀ c', p = numB o.s.size ++ c' → o.s.data.toList = c' ++ q → (rdText p false 100).2.2 = true := fun c' h1 h2 => by
        subst h1
        have hl : c'.length < o.s.size := by
          rw [← hz, h2, List.length_append]
          have := List.length_pos_iff.2 hq
          omega
        unfold rdText
        rw [rdNum_whole _ _ _ (by omega) hs]
        simp only [Bool.false_eq_true, if_false]
        rw [if_pos hl]
      rcases List.append_eq_append_iff.1 h with ⟨a', e1, e2⟩ | ⟨c', e1, e2⟩
      · exact hg a' e1 e2
      · by_cases hc : c' = []
        · subst hc
          exact hg [] (by rw [List.append_nil] at *; exact e1.symm) (by simpa using e2.symm)
        · exact hb c' hc e1
    · rw [if_neg h1] at h ⊢
      rw [yesB_num] at h
      rw [rdNum_part h hq]
theorem fin_cut : ∀ (os : List Op1) (p q : List UInt8), (∀ o ∈ os, o.n < 18446744073709551616 ∧ o.s.size ≤ 100) → q ≠ [] → bytesOf os = p ++ q → fin os p false = true
  | [], p, q, _, hq, h => by
    exact absurd (List.append_eq_nil_iff.1 h.symm).2 hq
  | o :: r, p, q, ho, hq, h => by
    obtain ⟨h1, h2⟩ := ho o (List.mem_cons_self ..)
    have hr := fun x hx => ho x (List.mem_cons_of_mem _ hx)
    rw [bytesOf] at h
    rw [fin]
    rcases List.append_eq_append_iff.1 h with ⟨a', e1, e2⟩ | ⟨c', e1, e2⟩
    · subst e1
      rw [rdOp_whole o a' h1 h2]
      exact fin_cut r a' q hr hq e2
    · by_cases hc : c' = []
      · subst hc
        rw [List.append_nil] at e1
        have := rdOp_whole o [] h1 h2
        rw [List.append_nil, e1] at this
        rw [this]
        exact fin_cut r [] q hr hq (by rw [List.nil_append] at e2 ⊢; exact e2.symm)
      · have hb := rdOp_part o e1 hc h2
        rw [hb]
        exact fin_bad _ _
theorem rdText_len (l : List UInt8) (bad : Bool) (most : Nat) : (rdText l bad most).2.1.length ≤ l.length := by
  have h := (rdNum_len l bad most).1
  unfold rdText
  split
  · exact h
  · split
    · exact h
    · simp; omega
end Go.Proofs.Ytgcclkdlomifcaa
