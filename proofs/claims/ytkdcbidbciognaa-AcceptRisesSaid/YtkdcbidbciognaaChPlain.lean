/-
  Plain laws on chains: no node twice, where a node stands, what follows what.
-/
import Derived.Test.YtkdcbidbciognaaTold12
namespace Go.Proofs.Ytkdcbidbciognaa
set_option linter.unusedVariables false
set_option linter.unusedSimpArgs false
open Go.RowKit

theorem okNodes_all : ∀ (pre l : List Int), okNodes pre l = true → l.Nodup ∧ (∀ x ∈ l, x ∉ pre) ∧ ∀ x ∈ l, 0 ≤ x ∧ x ≤ 4
  | pre, [], _ => by simp
  | pre, y :: l, h => by
    simp only [okNodes, Bool.and_eq_true, Bool.not_eq_true', decide_eq_true_eq, decide_eq_false_iff_not] at h
    obtain ⟨⟨h1, h2⟩, h3⟩ := h
    obtain ⟨g1, g2, g3⟩ := okNodes_all (pre ++ [y]) l h3
    refine ⟨List.nodup_cons.2 ⟨fun hy => g2 y hy (by simp), g1⟩, ?_, ?_⟩
    · intro x hx
      rcases List.mem_cons.1 hx with rfl | hx
      · exact h2
      · exact fun hp => g2 x hx (by simp [hp])
    · intro x hx
      rcases List.mem_cons.1 hx with rfl | hx
      · exact h1
      · exact g3 x hx
theorem mayChain_all {ep : Int} {l : List Int} (h : mayChainB ep l = true) : (0 ≤ ep ∧ ep ≤ 1073741824) ∧ (1 ≤ l.length ∧ l.length ≤ 5) ∧ l.Nodup ∧ ∀ x ∈ l, 0 ≤ x ∧ x ≤ 4 := by
  simp only [mayChainB, Bool.and_eq_true, decide_eq_true_eq] at h
  obtain ⟨⟨h1, h2⟩, h3⟩ := h
  obtain ⟨g1, _, g3⟩ := okNodes_all [] l h3
  exact ⟨h1, h2, g1, g3⟩
theorem idx_get : ∀ (l : List Int) (k : Int) (j : Nat) (h : j < l.length), l.Nodup → idx l[j] l k = k + j
  | [], _, j, h, _ => by simp at h
  | y :: l, k, 0, _, _ => by simp [idx]
  | y :: l, k, j + 1, h, hn => by
    have hn' := List.nodup_cons.1 hn
    have hj : j < l.length := by simpa using h
    have hne : ¬ l[j] = y := fun e => hn'.1 (e ▸ List.getElem_mem hj)
    simp only [List.getElem_cons_succ]
    rw [idx, if_neg hne, idx_get l (k + 1) j hj hn'.2]
    omega
theorem idx_some {l : List Int} (hn : l.Nodup) {x : Int} (h : x ∈ l) : ∃ (j : Nat) (hj : j < l.length), idx x l 0 = j ∧ l[j] = x := by
  obtain ⟨j, hj, rfl⟩ := List.mem_iff_getElem.1 h
  exact ⟨j, hj, by rw [idx_get l 0 j hj hn]; omega, rfl⟩
theorem idx_no {l : List Int} {x : Int} (h : ¬ x ∈ l) : idx x l 0 = -1 := by
  rcases idx_lt x l 0 (by omega) with h1 | h1
  · have h2 : ¬ 0 ≤ idx x l 0 := fun h3 => h ((idx_ge x l 0 (by omega)).1 h3)
    omega
  · exact h1
/-- who stands above the one at place j -/
theorem above_at {l : List Int} (hn : l.Nodup) (j : Nat) (hj : j < l.length) : besideI l l[j] (-1) = if h : 0 < j then l[j - 1]'(by omega) else -1 := by
  have e := idx_get l 0 j hj hn
  unfold besideI
  rw [e]
  by_cases h : 0 < j
  · rw [if_neg (by omega), dif_pos h]
    have h1 : (0 + (j : Int) + -1).toNat = j - 1 := by omega
    rw [h1, List.getD_eq_getElem?_getD, List.getElem?_eq_getElem (by omega)]
    rfl
  · rw [if_pos (by omega), dif_neg h]
/-- what a chain that follows keeps: all but the last one were there, further and further on -/
theorem nextL_steps (la : List Int) : ∀ (r : List Int) (a c : Int), 0 ≤ a → nextL la r a c = true →
    (∀ q (h : q < r.length), q + 1 < r.length → a ≤ idx r[q] la 0) ∧ (∀ q (h : q < r.length), 0 ≤ idx r[q] la 0 → a ≤ idx r[q] la 0) ∧ (∀ q (h : q + 1 < r.length), 0 ≤ idx r[q + 1] la 0 → idx r[q] la 0 < idx r[q + 1] la 0)
  | [], _, _, _, _ => by simp
  | x :: r, a, c, ha, h => by
    unfold nextL at h
    split at h
    · rename_i h0
      obtain ⟨h0, rfl⟩ := h0
      refine ⟨?_, ?_, ?_⟩
      · intro q hq hq2; simp at hq2
      · intro q hq h2
        have : q = 0 := by simp at hq; exact hq
        subst this
        simp at h2
        omega
      · intro q hq; simp at hq
    · rename_i h0
      split at h
      · cases h
      · rename_i h1
        obtain ⟨g1, g2, g3⟩ := nextL_steps la r (idx x la 0 + 1) (c + 1) (by omega) h
        refine ⟨?_, ?_, ?_⟩
        · intro q hq hq2
          cases q with
          | zero => simp; omega
          | succ q => simp at hq hq2 ⊢; have := g1 q hq hq2; omega
        · intro q hq h2
          cases q with
          | zero => simp; omega
          | succ q => simp at hq h2 ⊢; have := g2 q hq h2; omega
        · intro q hq h2
          cases q with
          | zero => simp at h2 ⊢; have := g2 0 (by simpa using hq) h2; omega
          | succ q => simp at hq h2 ⊢; exact g3 q hq h2

theorem nextB_all {ea eb n : Int} {la lb : List Int} (h : nextB ea eb la lb n = true) : mayChainB ea la = true ∧ mayChainB eb lb = true ∧ la.any (badB n) = false ∧ lb.any (badB n) = false ∧ eb = ea + 1 ∧ nextL la lb 0 0 = true := by
  simp only [nextB, Bool.and_eq_true, Bool.not_eq_true', decide_eq_true_eq] at h
  obtain ⟨⟨⟨⟨⟨h1, h2⟩, h3⟩, h4⟩, h5⟩, h6⟩ := h
  exact ⟨h1, h2, h3, h4, h5, h6⟩
theorem nextB_mk {ea eb n : Int} {la lb : List Int} (h1 : mayChainB ea la = true) (h2 : mayChainB eb lb = true) (h3 : la.any (badB n) = false) (h4 : lb.any (badB n) = false) (h5 : eb = ea + 1) (h6 : nextL la lb 0 0 = true) : nextB ea eb la lb n = true := by
  subst h5; simp [nextB, h1, h2, h3, h4, h6]
end Go.Proofs.Ytkdcbidbciognaa
