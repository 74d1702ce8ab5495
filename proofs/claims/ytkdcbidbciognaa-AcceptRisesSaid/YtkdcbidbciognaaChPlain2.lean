/-
  Plain laws on chains, further: what is left, or has one more, follows; a bound on how many there are.
-/
import Derived.Test.YtkdcbidbciognaaChWithoutWalk
namespace Go.Proofs.Ytkdcbidbciognaa
set_option linter.unusedVariables false
set_option linter.unusedSimpArgs false
open Go.RowKit

theorem nodup_bound : ∀ (k : Nat) (l : List Int), l.Nodup → (∀ x ∈ l, 0 ≤ x ∧ x < k) → l.length ≤ k
  | 0, l, _, h => by
    cases l with
    | nil => simp
    | cons x r => have := h x (by simp); omega
  | k + 1, l, hn, h => by
    by_cases hk : (k : Int) ∈ l
    · have h1 := nodup_bound k (l.erase (k : Int)) (hn.erase _) (fun x hx => by
        have h2 := (List.Nodup.mem_erase_iff hn).1 hx
        have h3 := h x h2.2
        have h4 := h2.1
        omega)
      rw [List.length_erase_of_mem hk] at h1
      omega
    · have h1 := nodup_bound k l hn (fun x hx => by
        have h3 := h x hx
        have h4 : x ≠ (k : Int) := fun e => hk (e ▸ hx)
        omega)
      omega

theorem sub_head {y : Int} {r : List Int} : ∀ (l : List Int), (y :: r).Sublist l → ∃ j, l[j]? = some y ∧ r.Sublist (l.drop (j + 1))
  | [], h => by cases h
  | z :: l, h => by
    rcases List.sublist_cons_iff.1 h with h1 | ⟨r', e, h1⟩
    · obtain ⟨j, h2, h3⟩ := sub_head l h1
      exact ⟨j + 1, by simpa using h2, by simpa using h3⟩
    · injection e with e1 e2
      subst e1; subst e2
      exact ⟨0, rfl, by simpa using h1⟩
theorem nextL_sub {la : List Int} (hn : la.Nodup) : ∀ (r : List Int) (a : Nat) (c : Int), 0 ≤ c → r.Sublist (la.drop a) → nextL la r a c = decide (0 < c + r.length)
  | [], a, c, hc, _ => by simp [nextL]
  | y :: r, a, c, hc, h => by
    obtain ⟨j, h1, h2⟩ := sub_head _ h
    rw [List.getElem?_drop] at h1
    obtain ⟨hj, rfl⟩ := List.getElem?_eq_some_iff.1 h1
    have e := idx_get la 0 (a + j) hj hn
    unfold nextL
    rw [e, if_neg (by omega), if_neg (by omega)]
    rw [List.drop_drop, show a + (j + 1) = a + j + 1 by omega] at h2
    have h3 := nextL_sub hn r (a + j + 1) (c + 1) (by omega) h2
    have e2 : (0 : Int) + ((a + j : Nat) : Int) + 1 = ((a + j + 1 : Nat) : Int) := by omega
    rw [e2, h3]
    rw [decide_eq_true (by omega), decide_eq_true (by simp; omega)]
theorem nextL_more {la : List Int} (hn : la.Nodup) {x : Int} (hx : ¬ x ∈ la) : ∀ (r : List Int) (a : Nat) (c : Int), 0 ≤ c → r.Sublist (la.drop a) → nextL la (r ++ [x]) a c = decide (0 < c + r.length)
  | [], a, c, hc, _ => by
    rw [List.nil_append, nextL, idx_no hx, if_pos ⟨by omega, rfl⟩]
    simp [nextL]
  | y :: r, a, c, hc, h => by
    obtain ⟨j, h1, h2⟩ := sub_head _ h
    rw [List.getElem?_drop] at h1
    obtain ⟨hj, rfl⟩ := List.getElem?_eq_some_iff.1 h1
    have e := idx_get la 0 (a + j) hj hn
    rw [List.cons_append]
    unfold nextL
    rw [e, if_neg (by omega), if_neg (by omega)]
    rw [List.drop_drop, show a + (j + 1) = a + j + 1 by omega] at h2
    have h3 := nextL_more hn hx r (a + j + 1) (c + 1) (by omega) h2
    have e2 : (0 : Int) + ((a + j : Nat) : Int) + 1 = ((a + j + 1 : Nat) : Int) := by omega
    rw [e2, h3]
    rw [decide_eq_true (by omega), decide_eq_true (by simp; omega)]

theorem badB_none {n : Int} {l : List Int} (h : ∀ x ∈ l, 0 ≤ x ∧ x < n) : l.any (badB n) = false := by
  rw [List.any_eq_false]
  intro x hx
  have := h x hx
  simp [badB]
  omega
/-- what is left follows -/
theorem next_left {ep n : Int} {l gone : List Int} (h : mayChainB ep l = true) (he : ep < 1073741824) (hb : ∀ x ∈ l, 0 ≤ x ∧ x < n) (hne : leftL l gone ≠ []) :
    nextB ep (ep + 1) l (leftL l gone) n = true := by
  obtain ⟨h1, h2, h3, h4⟩ := mayChain_all h
  have hp := List.length_pos_iff.2 hne
  refine nextB_mk h (mayChain_mk (by omega) ⟨hp, Nat.le_trans (leftL_len _ _) h2.2⟩ (h3.filter _) (fun x hx => h4 x (List.mem_filter.1 hx).1)) (badB_none hb) (badB_none fun x hx => hb x (List.mem_filter.1 hx).1) rfl ?_
  have := nextL_sub h3 (leftL l gone) 0 0 (by omega) (by rw [List.drop_zero]; exact List.filter_sublist)
  rw [show ((0 : Nat) : Int) = 0 from rfl] at this
  rw [this, decide_eq_true (by omega)]
theorem may_more {ep : Int} {l : List Int} {x : Int} (h : mayChainB ep l = true) (he : ep < 1073741824) (hx : 0 ≤ x ∧ x ≤ 4) (hn : ¬ x ∈ l) : mayChainB (ep + 1) (l ++ [x]) = true := by
  obtain ⟨h1, h2, h3, h4⟩ := mayChain_all h
  have hnd : (l ++ [x]).Nodup := by
    rw [List.nodup_append]
    refine ⟨h3, by simp, fun a ha b hb e => ?_⟩
    simp at hb
    subst hb; subst e
    exact hn ha
  have hall : ∀ y ∈ l ++ [x], 0 ≤ y ∧ y ≤ 4 := fun y hy => by
    rcases List.mem_append.1 hy with hy | hy
    · exact h4 y hy
    · simp at hy; subst hy; exact hx
  exact mayChain_mk (by omega) ⟨by simp, nodup_bound 5 _ hnd (fun y hy => by have := hall y hy; omega)⟩ hnd hall
theorem may_twice {ep : Int} {l : List Int} {x : Int} (hx : x ∈ l) : mayChainB ep (l ++ [x]) = false := by
  cases hm : mayChainB ep (l ++ [x])
  · rfl
  · obtain ⟨_, _, h3, _⟩ := mayChain_all hm
    rw [List.nodup_append] at h3
    exact absurd rfl (h3.2.2 x hx x (by simp))
/-- one more follows -/
theorem next_more {ep n : Int} {l : List Int} {x : Int} (h : mayChainB ep l = true) (hm : mayChainB (ep + 1) (l ++ [x]) = true) (hb : ∀ x ∈ l, 0 ≤ x ∧ x < n) (hx : 0 ≤ x ∧ x < n) :
    nextB ep (ep + 1) l (l ++ [x]) n = true := by
  obtain ⟨h1, h2, h3, h4⟩ := mayChain_all h
  have hn : ¬ x ∈ l := fun hx => by rw [may_twice hx] at hm; cases hm
  refine nextB_mk h hm (badB_none hb) (badB_none fun y hy => ?_) rfl ?_
  · rcases List.mem_append.1 hy with hy | hy
    · exact hb y hy
    · simp at hy; subst hy; exact hx
  · have := nextL_more h3 hn l 0 0 (by omega) (by simp)
    rw [show ((0 : Nat) : Int) = 0 from rfl] at this
    rw [this, decide_eq_true (by omega)]
theorem next_back {ep ep' n : Int} {la lb : List Int} (h : ¬ ep' = ep + 1) : nextB ep ep' la lb n = false := by
  simp [nextB, h]
/-- without one that is in it one less is left -/
theorem left_one {l : List Int} {x : Int} (hn : l.Nodup) (hx : x ∈ l) : (leftL l [x]).length + 1 = l.length := by
  have h1 : leftL l [x] = l.erase x := by
    rw [List.Nodup.erase_eq_filter hn]
    unfold leftL
    congr 1
    funext y
    rw [Bool.eq_iff_iff]
    simp [bne]
  rw [h1, List.length_erase_of_mem hx]
  have := List.length_pos_of_mem hx
  omega
theorem tail_more (l : List Int) (x : Int) : tailI (l ++ [x]) = x := by simp [tailI]
end Go.Proofs.Ytkdcbidbciognaa
